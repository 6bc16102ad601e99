/-
  The walk of WireSizes.
-/
import Derived.Test.YtbiohhfibkolgaaNames
namespace Go.Proofs.Ytbiohhfibkolgaa
open Go.Sx
set_option linter.unusedVariables false
set_option linter.unusedSimpArgs false
set_option maxRecDepth 100000

theorem conv32 (m : Nat) : IntKind.u32.wrap (m : Int) = ((m % 4294967296 : Nat) : Int) := by rw [wrap_u32_mod]; omega
theorem row_cap2 {H : List HProp} (i : Nat) {e : TypeId} {size n c : Nat} {p : Option Addr} {xs : List Value} (hi : H[i]? = some (row e size (.slice p n c) n xs)) {w : World} {F : HProp} (s : sat w (star (St H) F)) : n ≤ c := by
  rcases (row_shape i hi s).2 with ⟨h1, h2, _⟩ | ⟨b, cap, h1, h2, _⟩
  · omega
  · injection h1 with _ _ h3; omega
theorem row_ptr2 {H : List HProp} (i : Nat) {e : TypeId} {size n c : Nat} {p : Option Addr} {xs : List Value} (hi : H[i]? = some (row e size (.slice p n c) n xs)) {w : World} {F : HProp} (s : sat w (star (St H) F)) : n ≠ 0 → ∃ b, p = some ⟨b, 0, none⟩ := fun h0 => by
  rcases (row_shape i hi s).2 with ⟨h1, h2, _⟩ | ⟨b, cap, h1, h2, _⟩
  · omega
  · injection h1 with h3 _ _; exact ⟨b, h3⟩
abbrev A1 (n : Nat) : List UInt8 := [] ++ [b8 ((n % 256 : Nat) : Int)]
abbrev A2 (n : Nat) : List UInt8 := A1 n ++ be (n % 4294967296) 4
abbrev A3 (n : Nat) : List UInt8 := A2 n ++ be n 8
abbrev A4 (n : Nat) (l : List UInt8) : List UInt8 := A3 n ++ be (str l).size 4 ++ (str l).data.toList
abbrev A5 (n : Nat) (l : List UInt8) : List UInt8 := A4 n l ++ mp l
theorem A1_len (n : Nat) : (A1 n).length = 1 := rfl
theorem A2_len (n : Nat) : (A2 n).length = 5 := by simp [be_length]
theorem A3_len (n : Nat) : (A3 n).length = 13 := by simp [be_length]
theorem A4_len (n : Nat) (l : List UInt8) : (A4 n l).length = 17 + l.length := by simp [be_length, str]; omega
theorem mp_len (l : List UInt8) : (mp l).length = 4 + (top (bare l)).length := by simp [mp, be_length]
theorem A5_len (n : Nat) (l : List UInt8) : (A5 n l).length = 21 + l.length + (top (bare l)).length := by rw [List.length_append, A4_len, mp_len]; omega
theorem bare_le (l : List UInt8) : (bare l).length ≤ l.length := (List.dropWhile_sublist _).length_le
theorem top_len (l : List UInt8) : (top (bare l)).length ≤ l.length + 1 := by
  have := bare_le l
  unfold top; split
  · simp
  · rename_i d r hb; rw [hb] at this; split <;> simp at this ⊢ <;> omega
theorem A5_get (n : Nat) (l : List UInt8) {d : UInt8} (h : (top (bare l))[0]? = some d) : (cel (A5 n l))[(A4 n l).length + 4]? = some (byteV d) := by
  have e : (A5 n l)[(A4 n l).length + 4]? = some d := by
    rw [List.getElem?_append_right (by omega), Nat.add_sub_cancel_left, mp, List.getElem?_append_right (by rw [be_length]; omega), be_length]; exact h
  rw [cel, List.getElem?_map, e]; rfl
theorem wireSizes_run (V : HProp) (n : Nat) (hn : n < 18446744073709551616) (s : ByteArray) : Tri Try.prog 5 [.int .u64 n, .string s] [V] (fun v H' => v = .bool true ∧ V ∈ H') := by
  refine tri_of_wp Try.func5 rfl Try.ntmps5 (by simp) ?_
  refine wp_seq' ?_
  refine wp_region' ?_
  refine ops_ro' rfl (ro_assign rfl) rfl ?_
  refine ops_nil ?_
  repeat (first | refine InBlock_normal ?_ | refine NoGoto_normal ?_ | refine Jump_normal ?_)
  refine Then_normal ?_
  refine wp_seq' ?_
  refine wp_region' ?_
  refine ops_ro' rfl (ro_move rfl) rfl ?_
  refine ops_eff' rfl (eff_call Try.call21 rfl rfl (Split.nil _) (head_spec s 200)) rfl ?_
  rintro _ H' ⟨_, ⟨rfl, rfl⟩, hH⟩
  simp only [List.cons_append, List.nil_append, List.eraseIdx_cons_zero, List.eraseIdx_cons_succ, List.set_cons_zero, List.set_cons_succ] at hH
  subst hH
  rw [show hd s 200 = str (hd s 200).data.toList from (str_data _).symm]
  have hl : (hd s 200).data.toList.length ≤ 200 := by have := hd_size s 200; simpa using this
  generalize (hd s 200).data.toList = l at *
  have e1 := A1_len n
  have e2 := A2_len n
  have e3 := A3_len n
  have e4 := A4_len n l
  have e5 := A5_len n l
  have htop := top_len l
  refine ops_ro' rfl (ro_assign rfl) rfl ?_
  refine ops_nil ?_
  repeat (first | refine InBlock_normal ?_ | refine NoGoto_normal ?_ | refine Jump_normal ?_)
  refine Then_normal ?_
  refine wp_seq' ?_
  refine wp_region' ?_
  refine ops_eff' rfl (eff_call Try.call22 rfl rfl (Split.nil _) (newWriter_spec)) rfl ?_
  rintro _ H' ⟨_, ⟨pw, rfl, rfl⟩, hH⟩
  simp only [List.cons_append, List.nil_append, List.eraseIdx_cons_zero, List.eraseIdx_cons_succ, List.set_cons_zero, List.set_cons_succ] at hH
  subst hH
  refine ops_ro' rfl (ro_assign rfl) rfl ?_
  refine ops_nil ?_
  repeat (first | refine InBlock_normal ?_ | refine NoGoto_normal ?_ | refine Jump_normal ?_)
  refine Then_normal ?_
  refine wp_seq' ?_
  refine wp_seq' ?_
  refine wp_region' ?_
  refine ops_ro' rfl (ro_move rfl) rfl ?_
  refine ops_ro' rfl (ro_ptrEqlNil Try.underlying49 rfl rfl rfl) rfl ?_
  refine ops_nil ?_
  repeat (first | refine InBlock_normal ?_ | refine NoGoto_normal ?_ | refine Jump_normal ?_)
  refine Then_normal ?_
  refine wp_condF rfl ?_
  refine wp_skip' ?_
  repeat (first | refine InBlock_normal ?_ | refine NoGoto_normal ?_ | refine Jump_normal ?_)
  refine Then_normal ?_
  refine wp_seq' ?_
  refine wp_region' ?_
  refine ops_ro' rfl (ro_move rfl) rfl ?_
  refine ops_ro' rfl (ro_move rfl) rfl ?_
  refine ops_ro' rfl (ro_rem rfl rfl (by omega) (show ((n : Nat) : Int).tmod 256 = ((n % 256 : Nat) : Int) from by rw [Int.tmod_eq_emod_of_nonneg (by omega)]; omega)) rfl ?_
  refine ops_ro' rfl (ro_conv Try.underlying28 Try.underlying3 rfl (by first | exact wrap_i64_in (by omega) (by omega) | rfl)) rfl ?_
  refine ops_eff' rfl (eff_call Try.call23 rfl rfl (Split.cons 0 rfl (Split.cons 0 rfl (Split.nil _))) (byte_spec _ _ _ [] ((n % 256 : Nat) : Int) (by simp))) rfl ?_
  rintro _ H' ⟨_, ⟨p1, c1, rfl, rfl⟩, hH⟩
  simp only [List.cons_append, List.nil_append, List.eraseIdx_cons_zero, List.eraseIdx_cons_succ, List.set_cons_zero, List.set_cons_succ] at hH
  subst hH
  refine ops_nil ?_
  repeat (first | refine InBlock_normal ?_ | refine NoGoto_normal ?_ | refine Jump_normal ?_)
  refine Then_normal ?_
  refine wp_seq' ?_
  refine wp_region' ?_
  refine ops_ro' rfl (ro_move rfl) rfl ?_
  refine ops_eff' rfl (eff_call Try.call24 rfl rfl (Split.cons 0 rfl (Split.cons 0 rfl (Split.nil _))) (done_spec _ _ _ (A1 n) (by omega))) rfl ?_
  rintro _ H' ⟨_, ⟨p'', c'', rfl, hal, rfl⟩, hH⟩
  simp only [List.cons_append, List.nil_append, List.eraseIdx_cons_zero, List.eraseIdx_cons_succ, List.set_cons_zero, List.set_cons_succ] at hH
  subst hH
  refine ops_drop 0 ?_
  refine ops_ro' rfl (ro_sliceLen Try.underlying25 rfl) rfl ?_
  refine ops_ro' rfl (ro_assign rfl) rfl ?_
  refine ops_nil ?_
  repeat (first | refine InBlock_normal ?_ | refine NoGoto_normal ?_ | refine Jump_normal ?_)
  refine Then_normal ?_
  refine wp_seq' ?_
  refine wp_region' ?_
  refine ops_ro' rfl (ro_move rfl) rfl ?_
  refine ops_ro' rfl (ro_move rfl) rfl ?_
  refine ops_ro' rfl (ro_conv Try.underlying28 Try.underlying27 rfl (conv32 n)) rfl ?_
  refine ops_eff' rfl (eff_call Try.call25 rfl rfl (Split.cons 0 rfl (Split.cons 0 rfl (Split.nil _))) (u32_at _ _ _ (A1 n) (n % 4294967296) _ rfl (by omega) (by omega))) rfl ?_
  rintro _ H' ⟨_, ⟨p2, c2, rfl, rfl⟩, hH⟩
  simp only [List.cons_append, List.nil_append, List.eraseIdx_cons_zero, List.eraseIdx_cons_succ, List.set_cons_zero, List.set_cons_succ] at hH
  subst hH
  refine ops_nil ?_
  repeat (first | refine InBlock_normal ?_ | refine NoGoto_normal ?_ | refine Jump_normal ?_)
  refine Then_normal ?_
  refine wp_seq' ?_
  refine wp_region' ?_
  refine ops_ro' rfl (ro_move rfl) rfl ?_
  refine ops_eff' rfl (eff_call Try.call24 rfl rfl (Split.cons 0 rfl (Split.cons 0 rfl (Split.nil _))) (done_spec _ _ _ (A2 n) (by omega))) rfl ?_
  rintro _ H' ⟨_, ⟨p'', c'', rfl, hal, rfl⟩, hH⟩
  simp only [List.cons_append, List.nil_append, List.eraseIdx_cons_zero, List.eraseIdx_cons_succ, List.set_cons_zero, List.set_cons_succ] at hH
  subst hH
  refine ops_drop 0 ?_
  refine ops_ro' rfl (ro_sliceLen Try.underlying25 rfl) rfl ?_
  refine ops_ro' rfl (ro_assign rfl) rfl ?_
  refine ops_nil ?_
  repeat (first | refine InBlock_normal ?_ | refine NoGoto_normal ?_ | refine Jump_normal ?_)
  refine Then_normal ?_
  refine wp_seq' ?_
  refine wp_region' ?_
  refine ops_ro' rfl (ro_move rfl) rfl ?_
  refine ops_ro' rfl (ro_move rfl) rfl ?_
  refine ops_eff' rfl (eff_call Try.call26 rfl rfl (Split.cons 0 rfl (Split.cons 0 rfl (Split.nil _))) (u64_at _ _ _ (A2 n) n _ rfl (by omega))) rfl ?_
  rintro _ H' ⟨_, ⟨p3, c3, rfl, rfl⟩, hH⟩
  simp only [List.cons_append, List.nil_append, List.eraseIdx_cons_zero, List.eraseIdx_cons_succ, List.set_cons_zero, List.set_cons_succ] at hH
  subst hH
  refine ops_nil ?_
  repeat (first | refine InBlock_normal ?_ | refine NoGoto_normal ?_ | refine Jump_normal ?_)
  refine Then_normal ?_
  refine wp_seq' ?_
  refine wp_region' ?_
  refine ops_ro' rfl (ro_move rfl) rfl ?_
  refine ops_eff' rfl (eff_call Try.call24 rfl rfl (Split.cons 0 rfl (Split.cons 0 rfl (Split.nil _))) (done_spec _ _ _ (A3 n) (by omega))) rfl ?_
  rintro _ H' ⟨_, ⟨p'', c'', rfl, hal, rfl⟩, hH⟩
  simp only [List.cons_append, List.nil_append, List.eraseIdx_cons_zero, List.eraseIdx_cons_succ, List.set_cons_zero, List.set_cons_succ] at hH
  subst hH
  refine ops_drop 0 ?_
  refine ops_ro' rfl (ro_sliceLen Try.underlying25 rfl) rfl ?_
  refine ops_ro' rfl (ro_assign rfl) rfl ?_
  refine ops_nil ?_
  repeat (first | refine InBlock_normal ?_ | refine NoGoto_normal ?_ | refine Jump_normal ?_)
  refine Then_normal ?_
  refine wp_seq' ?_
  refine wp_region' ?_
  refine ops_ro' rfl (ro_move rfl) rfl ?_
  refine ops_ro' rfl (ro_move rfl) rfl ?_
  refine ops_eff' rfl (eff_call Try.call27 rfl rfl (Split.cons 0 rfl (Split.cons 0 rfl (Split.nil _))) (text_spec _ _ _ (A3 n) (str l) (by rw [str_size]; omega) (by omega))) rfl ?_
  rintro _ H' ⟨_, ⟨p4, c4, rfl, rfl⟩, hH⟩
  simp only [List.cons_append, List.nil_append, List.eraseIdx_cons_zero, List.eraseIdx_cons_succ, List.set_cons_zero, List.set_cons_succ] at hH
  subst hH
  refine ops_nil ?_
  repeat (first | refine InBlock_normal ?_ | refine NoGoto_normal ?_ | refine Jump_normal ?_)
  refine Then_normal ?_
  refine wp_seq' ?_
  refine wp_region' ?_
  refine ops_ro' rfl (ro_move rfl) rfl ?_
  refine ops_eff' rfl (eff_call Try.call24 rfl rfl (Split.cons 0 rfl (Split.cons 0 rfl (Split.nil _))) (done_spec _ _ _ (A4 n l) (by omega))) rfl ?_
  rintro _ H' ⟨_, ⟨p'', c'', rfl, hal, rfl⟩, hH⟩
  simp only [List.cons_append, List.nil_append, List.eraseIdx_cons_zero, List.eraseIdx_cons_succ, List.set_cons_zero, List.set_cons_succ] at hH
  subst hH
  refine ops_drop 0 ?_
  refine ops_ro' rfl (ro_sliceLen Try.underlying25 rfl) rfl ?_
  refine ops_ro' rfl (ro_assign rfl) rfl ?_
  refine ops_nil ?_
  repeat (first | refine InBlock_normal ?_ | refine NoGoto_normal ?_ | refine Jump_normal ?_)
  refine Then_normal ?_
  refine wp_seq' ?_
  refine wp_region' ?_
  refine ops_ro' rfl (ro_move rfl) rfl ?_
  refine ops_ro' rfl (ro_move rfl) rfl ?_
  refine ops_eff' rfl (eff_toBytes Try.underlying9 Try.underlying25 Try.underlying5 rfl (by rw [str_size]; simp only [maxLen]; omega)) rfl ?_
  rintro _ _ ⟨b47, c47, rfl, rfl⟩
  refine ops_know (fun w F s => row_cap2 0 rfl s) ?_
  intro hcm
  refine ops_eff' rfl (eff_call Try.call28 rfl rfl (Split.cons 1 rfl (Split.cons 1 rfl (Split.cons 0 rfl (Split.nil _)))) (mpint_at _ _ _ _ l (str_size l).symm Vw.row hcm _ _ _ (A4 n l) (by omega) (by omega))) rfl ?_
  rintro _ H' ⟨_, ⟨p5, c5, rfl, rfl⟩, hH⟩
  simp only [List.cons_append, List.nil_append, List.eraseIdx_cons_zero, List.eraseIdx_cons_succ, List.set_cons_zero, List.set_cons_succ] at hH
  subst hH
  refine ops_nil ?_
  repeat (first | refine InBlock_normal ?_ | refine NoGoto_normal ?_ | refine Jump_normal ?_)
  refine Then_normal ?_
  refine wp_seq' ?_
  refine wp_region' ?_
  refine ops_ro' rfl (ro_move rfl) rfl ?_
  refine ops_eff' rfl (eff_call Try.call24 rfl rfl (Split.cons 0 rfl (Split.cons 0 rfl (Split.nil _))) (done_spec _ _ _ (A5 n l) (by omega))) rfl ?_
  rintro _ H' ⟨_, ⟨p'', c'', rfl, hal, rfl⟩, hH⟩
  simp only [List.cons_append, List.nil_append, List.eraseIdx_cons_zero, List.eraseIdx_cons_succ, List.set_cons_zero, List.set_cons_succ] at hH
  subst hH
  refine ops_know (fun w F s => row_ptr2 0 rfl s) ?_
  intro hpd
  obtain ⟨bd, rfl⟩ := hpd (by omega)
  generalize hcd : c'' = cd
  refine ops_ro' rfl (ro_assign rfl) rfl ?_
  refine ops_nil ?_
  repeat (first | refine InBlock_normal ?_ | refine NoGoto_normal ?_ | refine Jump_normal ?_)
  refine Then_normal ?_
  refine wp_seq' ?_
  refine wp_region' ?_
  refine ops_ro' rfl (ro_assign rfl) rfl ?_
  refine ops_nil ?_
  repeat (first | refine InBlock_normal ?_ | refine NoGoto_normal ?_ | refine Jump_normal ?_)
  refine Then_normal ?_
  refine wp_seq' ?_
  refine wp_block' ?_
  refine wp_loop' (fun m Γ H => ∃ i, i + m = l.length ∧ bare (l.drop i) = bare l ∧ Has Γ [(1, .string (str l)), (6, .int .i64 ((A1 n).length : Nat)), (7, .int .i64 ((A2 n).length : Nat)), (8, .int .i64 ((A3 n).length : Nat)), (9, .int .i64 ((A4 n l).length : Nat)), (10, .slice (some ⟨bd, 0, none⟩) (A5 n l).length cd), (11, .int .i64 (i : Nat))] ∧ ∃ Z1 Z2 Z3, H = [row 5 1 (.slice (some ⟨bd, 0, none⟩) (A5 n l).length cd) (A5 n l).length (cel (A5 n l)), Z1, Z2, Z3, V]) (m := l.length) ⟨0, by omega, rfl, (Has.cons rfl (Has.cons rfl (Has.cons rfl (Has.cons rfl (Has.cons rfl (Has.cons rfl (Has.cons rfl (Has.nil _)))))))), _, _, _, rfl⟩ ?_
  rintro m Γ H ⟨i, him, hbi, hΓ, Z1, Z2, Z3, rfl⟩
  refine wp_has hΓ ?_
  refine wp_seq' ?_
  refine wp_seq' ?_
  rcases Nat.lt_or_ge i l.length with hi | hi
  · refine wp_region' ?_
    refine ops_ro' rfl (ro_move rfl) rfl ?_
    refine ops_ro' rfl (ro_move rfl) rfl ?_
    refine ops_ro' rfl (ro_strLen (t' := 0) Try.underlying9 rfl) rfl ?_
    refine ops_ro' rfl (ro_lss rfl rfl (decide_eq_true (by rw [str_size]; omega))) rfl ?_
    refine ops_ro' rfl (ro_move rfl) rfl ?_
    refine ops_ro' rfl (ro_move rfl) rfl ?_
    refine ops_ro' rfl (ro_move rfl) rfl ?_
    refine ops_ro' rfl (ro_strIndex (i := i) Try.underlying9 rfl rfl rfl (by rw [str_size]; exact hi)) rfl ?_
    refine ops_ro' rfl (ro_eql rfl rfl rfl) rfl ?_
    refine ops_ro' rfl (ro_pick rfl rfl) rfl ?_
    refine ops_nil ?_
    repeat (first | refine InBlock_normal ?_ | refine NoGoto_normal ?_ | refine Jump_normal ?_)
    refine Then_normal ?_
    refine wp_cond' rfl (fun hc1 => ?_) (fun hc1 => ?_)
    · try replace hc1 := of_decide_eq_true hc1
      have hz : l[i] = 0 := by
        apply UInt8.toNat_inj.1
        have h : ((l[i].toNat : Nat) : Int) = 0 := hc1
        show l[i].toNat = 0; omega
      refine wp_skip' ?_
      repeat (first | refine InBlock_normal ?_ | refine NoGoto_normal ?_ | refine Jump_normal ?_)
      refine Then_normal ?_
      refine wp_block' ?_
      refine wp_region' ?_
      refine ops_ro' rfl (ro_move rfl) rfl ?_
      refine ops_ro' rfl (ro_add rfl rfl (show IntKind.i64.wrap ((i : Int) + 1) = ((i + 1 : Nat) : Int) from by rw [wrap_i64_in (by omega) (by omega)]; omega)) rfl ?_
      refine ops_ro' rfl (ro_assign rfl) rfl ?_
      refine ops_nil ?_
      repeat (first | refine InBlock_normal ?_ | refine NoGoto_normal ?_ | refine Jump_normal ?_)
      refine Then_normal ?_
      exact ⟨m - 1, by omega, i + 1, by omega, by rw [← hbi, List.drop_eq_getElem_cons hi, hz, bare_zero], (Has.cons rfl (Has.cons rfl (Has.cons rfl (Has.cons rfl (Has.cons rfl (Has.cons rfl (Has.cons rfl (Has.nil _)))))))), Z1, Z2, Z3, rfl⟩
    · try replace hc1 := of_decide_eq_false hc1
      have hz : ¬ l[i] = 0 := fun e => hc1 (by show ((l[i].toNat : Nat) : Int) = 0; rw [e]; rfl)
      have hbr : bare l = l[i] :: l.drop (i + 1) := by rw [← hbi, List.drop_eq_getElem_cons hi, bare_stop _ hz]
      have hbl : (bare l).length = l.length - i := by rw [hbr]; simp <;> omega
      refine wp_exit' ?_
      repeat (first | refine Then_exit ?_ | refine NoGoto_exit ?_ | refine Jump_exit ?_ | refine InBlock_here ?_ | refine InBlock_far rfl ?_)
      repeat (first | refine InBlock_normal ?_ | refine NoGoto_normal ?_ | refine Jump_normal ?_)
      refine Then_normal ?_
      refine wp_seq' ?_
      refine wp_region' ?_
      refine ops_ro' rfl (ro_move rfl) rfl ?_
      refine ops_ro' rfl (ro_strLen (t' := 0) Try.underlying9 rfl) rfl ?_
      refine ops_ro' rfl (ro_move rfl) rfl ?_
      refine ops_ro' rfl (ro_sub rfl rfl (show IntKind.i64.wrap (((str l).size : Int) - (i : Int)) = ((l.length - i : Nat) : Int) from by rw [str_size, wrap_i64_in (by omega) (by omega)]; omega)) rfl ?_
      refine ops_ro' rfl (ro_assign rfl) rfl ?_
      refine ops_nil ?_
      repeat (first | refine InBlock_normal ?_ | refine NoGoto_normal ?_ | refine Jump_normal ?_)
      refine Then_normal ?_
      refine wp_seq' ?_
      refine wp_seq' ?_
      refine wp_region' ?_
      refine ops_ro' rfl (ro_move rfl) rfl ?_
      refine ops_ro' rfl (ro_gtr rfl rfl (decide_eq_true (by omega))) rfl ?_
      refine ops_ro' rfl (ro_move rfl) rfl ?_
      refine ops_ro' rfl (ro_move rfl) rfl ?_
      refine ops_ro' rfl (ro_move rfl) rfl ?_
      refine ops_ro' rfl (ro_strIndex (i := i) Try.underlying9 rfl rfl rfl (by rw [str_size]; exact hi)) rfl ?_
      refine ops_ro' rfl (ro_geq rfl rfl rfl) rfl ?_
      refine ops_ro' rfl (ro_pick rfl rfl) rfl ?_
      refine ops_nil ?_
      repeat (first | refine InBlock_normal ?_ | refine NoGoto_normal ?_ | refine Jump_normal ?_)
      refine Then_normal ?_
      refine wp_cond' rfl (fun hc2 => ?_) (fun hc2 => ?_)
      · try replace hc2 := of_decide_eq_true hc2
        have hd128 : (128 : Int) ≤ ((l[i].toNat : Nat) : Int) := hc2
        have htp : top (bare l) = 0 :: l[i] :: l.drop (i + 1) := by rw [hbr, top, if_pos (by omega)]
        have hrest : (top (bare l)).length = l.length - i + 1 := by rw [htp]; simp <;> omega
        have hget : (cel (A5 n l))[(A4 n l).length + 4]? = some (byteV 0) := A5_get n l (by rw [htp]; rfl)
        have hlt : ((0 : UInt8).toNat : Int) < 128 := by decide
        refine wp_region' ?_
        refine ops_ro' rfl (ro_move rfl) rfl ?_
        refine ops_ro' rfl (ro_add rfl rfl (show IntKind.i64.wrap (((l.length - i : Nat) : Int) + 1) = ((l.length - i + 1 : Nat) : Int) from by rw [wrap_i64_in (by omega) (by omega)]; omega)) rfl ?_
        refine ops_ro' rfl (ro_assign rfl) rfl ?_
        refine ops_nil ?_
        repeat (first | refine InBlock_normal ?_ | refine NoGoto_normal ?_ | refine Jump_normal ?_)
        refine Then_normal ?_
        refine wp_seq' ?_
        refine wp_region' ?_
        refine ops_ro' rfl (ro_move rfl) rfl ?_
        refine ops_ro' rfl (ro_eql rfl rfl (decide_eq_true (by omega))) rfl ?_
        refine ops_ro' rfl (ro_move rfl) rfl ?_
        refine ops_ro' rfl (ro_move rfl) rfl ?_
        refine ops_ro' rfl (ro_eql rfl rfl (decide_eq_true (by omega))) rfl ?_
        refine ops_ro' rfl (ro_pick rfl rfl) rfl ?_
        refine ops_ro' rfl (ro_move rfl) rfl ?_
        refine ops_ro' rfl (ro_move rfl) rfl ?_
        refine ops_ro' rfl (ro_eql rfl rfl (decide_eq_true (by omega))) rfl ?_
        refine ops_ro' rfl (ro_pick rfl rfl) rfl ?_
        refine ops_ro' rfl (ro_move rfl) rfl ?_
        refine ops_ro' rfl (ro_move rfl) rfl ?_
        refine ops_ro' rfl (ro_move rfl) rfl ?_
        refine ops_ro' rfl (ro_strLen (t' := 0) Try.underlying9 rfl) rfl ?_
        refine ops_ro' rfl (ro_add rfl rfl (show IntKind.i64.wrap ((17 : Int) + ((str l).size : Int)) = ((17 + l.length : Nat) : Int) from by rw [str_size, wrap_i64_in (by omega) (by omega)]; omega)) rfl ?_
        refine ops_ro' rfl (ro_eql rfl rfl (decide_eq_true (by omega))) rfl ?_
        refine ops_ro' rfl (ro_pick rfl rfl) rfl ?_
        refine ops_ro' rfl (ro_move rfl) rfl ?_
        refine ops_ro' rfl (ro_move rfl) rfl ?_
        refine ops_ro' rfl (ro_sliceLen Try.underlying25 rfl) rfl ?_
        refine ops_ro' rfl (ro_move rfl) rfl ?_
        refine ops_ro' rfl (ro_add rfl rfl (by first | exact wrap_i64_in (by omega) (by omega) | rfl)) rfl ?_
        refine ops_ro' rfl (ro_move rfl) rfl ?_
        refine ops_ro' rfl (ro_add rfl rfl (by first | exact wrap_i64_in (by omega) (by omega) | rfl)) rfl ?_
        refine ops_ro' rfl (ro_eql rfl rfl (decide_eq_true (by omega))) rfl ?_
        refine ops_ro' rfl (ro_pick rfl rfl) rfl ?_
        refine ops_ro' rfl (ro_move rfl) rfl ?_
        refine ops_ro' rfl (ro_move rfl) rfl ?_
        refine ops_ro' rfl (ro_eql rfl rfl (decide_eq_false (by omega))) rfl ?_
        refine ops_ro' rfl (ro_move rfl) rfl ?_
        refine ops_ro' rfl (ro_move rfl) rfl ?_
        refine ops_ro' rfl (ro_move rfl) rfl ?_
        refine ops_ro' rfl (ro_add rfl rfl (show IntKind.i64.wrap ((((A4 n l).length : Nat) : Int) + 4) = (((A4 n l).length + 4 : Nat) : Int) from by rw [wrap_i64_in (by omega) (by omega)]; omega)) rfl ?_
        refine ops_ro' rfl (ro_indexSlice sl25 rfl rfl rfl (by omega)) rfl ?_
        refine ops_ro' rfl (ro_load sc5 rfl (Rd.pick 0 rfl (Rd.row (by simpa using hget)))) rfl ?_
        refine ops_ro' rfl (ro_lss rfl rfl (decide_eq_true hlt)) rfl ?_
        refine ops_ro' rfl (ro_pick rfl rfl) rfl ?_
        refine ops_ro' rfl (ro_pick rfl rfl) rfl ?_
        refine ops_ro' rfl (ro_move rfl) rfl ?_
        refine ops_eff' rfl (eff_call Try.call29 rfl rfl (Split.nil _) (known1_spec)) rfl ?_
        rintro _ H' ⟨_, ⟨rfl, rfl⟩, hH⟩
        simp only [List.cons_append, List.nil_append, List.eraseIdx_cons_zero, List.eraseIdx_cons_succ, List.set_cons_zero, List.set_cons_succ] at hH
        subst hH
        refine ops_ro' rfl (ro_pick rfl rfl) rfl ?_
        refine ops_ro' rfl (ro_assign rfl) rfl ?_
        refine ops_nil ?_
        repeat (first | refine InBlock_normal ?_ | refine NoGoto_normal ?_ | refine Jump_normal ?_)
        refine Then_normal ?_
        refine wp_ret' ?_
        repeat (first | refine Then_ret ?_ | refine InBlock_ret ?_ | refine NoGoto_ret ?_ | refine Jump_ret ?_)
        refine done_ret (res1 rfl rfl) ?_
        exact ⟨rfl, by simp⟩
      · try replace hc2 := of_decide_eq_false hc2
        have hd128 : ¬ (128 : Int) ≤ ((l[i].toNat : Nat) : Int) := hc2
        have htp : top (bare l) = l[i] :: l.drop (i + 1) := by rw [hbr, top, if_neg (by omega)]
        have hrest : (top (bare l)).length = l.length - i := by rw [htp]; simp <;> omega
        have hget : (cel (A5 n l))[(A4 n l).length + 4]? = some (byteV l[i]) := A5_get n l (by rw [htp]; rfl)
        have hlt : ((l[i].toNat : Nat) : Int) < 128 := by omega
        refine wp_skip' ?_
        repeat (first | refine InBlock_normal ?_ | refine NoGoto_normal ?_ | refine Jump_normal ?_)
        refine Then_normal ?_
        refine wp_seq' ?_
        refine wp_region' ?_
        refine ops_ro' rfl (ro_move rfl) rfl ?_
        refine ops_ro' rfl (ro_eql rfl rfl (decide_eq_true (by omega))) rfl ?_
        refine ops_ro' rfl (ro_move rfl) rfl ?_
        refine ops_ro' rfl (ro_move rfl) rfl ?_
        refine ops_ro' rfl (ro_eql rfl rfl (decide_eq_true (by omega))) rfl ?_
        refine ops_ro' rfl (ro_pick rfl rfl) rfl ?_
        refine ops_ro' rfl (ro_move rfl) rfl ?_
        refine ops_ro' rfl (ro_move rfl) rfl ?_
        refine ops_ro' rfl (ro_eql rfl rfl (decide_eq_true (by omega))) rfl ?_
        refine ops_ro' rfl (ro_pick rfl rfl) rfl ?_
        refine ops_ro' rfl (ro_move rfl) rfl ?_
        refine ops_ro' rfl (ro_move rfl) rfl ?_
        refine ops_ro' rfl (ro_move rfl) rfl ?_
        refine ops_ro' rfl (ro_strLen (t' := 0) Try.underlying9 rfl) rfl ?_
        refine ops_ro' rfl (ro_add rfl rfl (show IntKind.i64.wrap ((17 : Int) + ((str l).size : Int)) = ((17 + l.length : Nat) : Int) from by rw [str_size, wrap_i64_in (by omega) (by omega)]; omega)) rfl ?_
        refine ops_ro' rfl (ro_eql rfl rfl (decide_eq_true (by omega))) rfl ?_
        refine ops_ro' rfl (ro_pick rfl rfl) rfl ?_
        refine ops_ro' rfl (ro_move rfl) rfl ?_
        refine ops_ro' rfl (ro_move rfl) rfl ?_
        refine ops_ro' rfl (ro_sliceLen Try.underlying25 rfl) rfl ?_
        refine ops_ro' rfl (ro_move rfl) rfl ?_
        refine ops_ro' rfl (ro_add rfl rfl (by first | exact wrap_i64_in (by omega) (by omega) | rfl)) rfl ?_
        refine ops_ro' rfl (ro_move rfl) rfl ?_
        refine ops_ro' rfl (ro_add rfl rfl (by first | exact wrap_i64_in (by omega) (by omega) | rfl)) rfl ?_
        refine ops_ro' rfl (ro_eql rfl rfl (decide_eq_true (by omega))) rfl ?_
        refine ops_ro' rfl (ro_pick rfl rfl) rfl ?_
        refine ops_ro' rfl (ro_move rfl) rfl ?_
        refine ops_ro' rfl (ro_move rfl) rfl ?_
        refine ops_ro' rfl (ro_eql rfl rfl (decide_eq_false (by omega))) rfl ?_
        refine ops_ro' rfl (ro_move rfl) rfl ?_
        refine ops_ro' rfl (ro_move rfl) rfl ?_
        refine ops_ro' rfl (ro_move rfl) rfl ?_
        refine ops_ro' rfl (ro_add rfl rfl (show IntKind.i64.wrap ((((A4 n l).length : Nat) : Int) + 4) = (((A4 n l).length + 4 : Nat) : Int) from by rw [wrap_i64_in (by omega) (by omega)]; omega)) rfl ?_
        refine ops_ro' rfl (ro_indexSlice sl25 rfl rfl rfl (by omega)) rfl ?_
        refine ops_ro' rfl (ro_load sc5 rfl (Rd.pick 0 rfl (Rd.row (by simpa using hget)))) rfl ?_
        refine ops_ro' rfl (ro_lss rfl rfl (decide_eq_true hlt)) rfl ?_
        refine ops_ro' rfl (ro_pick rfl rfl) rfl ?_
        refine ops_ro' rfl (ro_pick rfl rfl) rfl ?_
        refine ops_ro' rfl (ro_move rfl) rfl ?_
        refine ops_eff' rfl (eff_call Try.call29 rfl rfl (Split.nil _) (known1_spec)) rfl ?_
        rintro _ H' ⟨_, ⟨rfl, rfl⟩, hH⟩
        simp only [List.cons_append, List.nil_append, List.eraseIdx_cons_zero, List.eraseIdx_cons_succ, List.set_cons_zero, List.set_cons_succ] at hH
        subst hH
        refine ops_ro' rfl (ro_pick rfl rfl) rfl ?_
        refine ops_ro' rfl (ro_assign rfl) rfl ?_
        refine ops_nil ?_
        repeat (first | refine InBlock_normal ?_ | refine NoGoto_normal ?_ | refine Jump_normal ?_)
        refine Then_normal ?_
        refine wp_ret' ?_
        repeat (first | refine Then_ret ?_ | refine InBlock_ret ?_ | refine NoGoto_ret ?_ | refine Jump_ret ?_)
        refine done_ret (res1 rfl rfl) ?_
        exact ⟨rfl, by simp⟩
  · refine wp_region' ?_
    refine ops_ro' rfl (ro_move rfl) rfl ?_
    refine ops_ro' rfl (ro_move rfl) rfl ?_
    refine ops_ro' rfl (ro_strLen (t' := 0) Try.underlying9 rfl) rfl ?_
    refine ops_ro' rfl (ro_lss rfl rfl (decide_eq_false (by rw [str_size]; omega))) rfl ?_
    refine ops_ro' rfl (ro_move rfl) rfl ?_
    refine ops_skip rfl rfl ?_
    refine ops_skip rfl rfl ?_
    refine ops_skip rfl rfl ?_
    refine ops_skip rfl rfl ?_
    refine ops_ro' rfl (ro_pick rfl rfl) rfl ?_
    refine ops_nil ?_
    repeat (first | refine InBlock_normal ?_ | refine NoGoto_normal ?_ | refine Jump_normal ?_)
    refine Then_normal ?_
    refine wp_condF rfl ?_
    refine wp_exit' ?_
    repeat (first | refine Then_exit ?_ | refine NoGoto_exit ?_ | refine Jump_exit ?_ | refine InBlock_here ?_ | refine InBlock_far rfl ?_)
    repeat (first | refine InBlock_normal ?_ | refine NoGoto_normal ?_ | refine Jump_normal ?_)
    refine Then_normal ?_
    refine wp_seq' ?_
    have hrest : (top (bare l)).length = 0 := by rw [← hbi, List.drop_eq_nil_of_le hi]; rfl
    refine wp_region' ?_
    refine ops_ro' rfl (ro_move rfl) rfl ?_
    refine ops_ro' rfl (ro_strLen (t' := 0) Try.underlying9 rfl) rfl ?_
    refine ops_ro' rfl (ro_move rfl) rfl ?_
    refine ops_ro' rfl (ro_sub rfl rfl (show IntKind.i64.wrap (((str l).size : Int) - (i : Int)) = ((0 : Nat) : Int) from by rw [str_size, wrap_i64_in (by omega) (by omega)]; omega)) rfl ?_
    refine ops_ro' rfl (ro_assign rfl) rfl ?_
    refine ops_nil ?_
    repeat (first | refine InBlock_normal ?_ | refine NoGoto_normal ?_ | refine Jump_normal ?_)
    refine Then_normal ?_
    refine wp_seq' ?_
    refine wp_seq' ?_
    refine wp_region' ?_
    refine ops_ro' rfl (ro_move rfl) rfl ?_
    refine ops_ro' rfl (ro_gtr rfl rfl (decide_eq_false (by omega))) rfl ?_
    refine ops_ro' rfl (ro_move rfl) rfl ?_
    refine ops_skip rfl rfl ?_
    refine ops_skip rfl rfl ?_
    refine ops_skip rfl rfl ?_
    refine ops_skip rfl rfl ?_
    refine ops_ro' rfl (ro_pick rfl rfl) rfl ?_
    refine ops_nil ?_
    repeat (first | refine InBlock_normal ?_ | refine NoGoto_normal ?_ | refine Jump_normal ?_)
    refine Then_normal ?_
    refine wp_condF rfl ?_
    refine wp_skip' ?_
    repeat (first | refine InBlock_normal ?_ | refine NoGoto_normal ?_ | refine Jump_normal ?_)
    refine Then_normal ?_
    refine wp_seq' ?_
    refine wp_region' ?_
    refine ops_ro' rfl (ro_move rfl) rfl ?_
    refine ops_ro' rfl (ro_eql rfl rfl (decide_eq_true (by omega))) rfl ?_
    refine ops_ro' rfl (ro_move rfl) rfl ?_
    refine ops_ro' rfl (ro_move rfl) rfl ?_
    refine ops_ro' rfl (ro_eql rfl rfl (decide_eq_true (by omega))) rfl ?_
    refine ops_ro' rfl (ro_pick rfl rfl) rfl ?_
    refine ops_ro' rfl (ro_move rfl) rfl ?_
    refine ops_ro' rfl (ro_move rfl) rfl ?_
    refine ops_ro' rfl (ro_eql rfl rfl (decide_eq_true (by omega))) rfl ?_
    refine ops_ro' rfl (ro_pick rfl rfl) rfl ?_
    refine ops_ro' rfl (ro_move rfl) rfl ?_
    refine ops_ro' rfl (ro_move rfl) rfl ?_
    refine ops_ro' rfl (ro_move rfl) rfl ?_
    refine ops_ro' rfl (ro_strLen (t' := 0) Try.underlying9 rfl) rfl ?_
    refine ops_ro' rfl (ro_add rfl rfl (show IntKind.i64.wrap ((17 : Int) + ((str l).size : Int)) = ((17 + l.length : Nat) : Int) from by rw [str_size, wrap_i64_in (by omega) (by omega)]; omega)) rfl ?_
    refine ops_ro' rfl (ro_eql rfl rfl (decide_eq_true (by omega))) rfl ?_
    refine ops_ro' rfl (ro_pick rfl rfl) rfl ?_
    refine ops_ro' rfl (ro_move rfl) rfl ?_
    refine ops_ro' rfl (ro_move rfl) rfl ?_
    refine ops_ro' rfl (ro_sliceLen Try.underlying25 rfl) rfl ?_
    refine ops_ro' rfl (ro_move rfl) rfl ?_
    refine ops_ro' rfl (ro_add rfl rfl (by first | exact wrap_i64_in (by omega) (by omega) | rfl)) rfl ?_
    refine ops_ro' rfl (ro_move rfl) rfl ?_
    refine ops_ro' rfl (ro_add rfl rfl (by first | exact wrap_i64_in (by omega) (by omega) | rfl)) rfl ?_
    refine ops_ro' rfl (ro_eql rfl rfl (decide_eq_true (by omega))) rfl ?_
    refine ops_ro' rfl (ro_pick rfl rfl) rfl ?_
    refine ops_ro' rfl (ro_move rfl) rfl ?_
    refine ops_ro' rfl (ro_move rfl) rfl ?_
    refine ops_ro' rfl (ro_eql rfl rfl (decide_eq_true (by omega))) rfl ?_
    refine ops_ro' rfl (ro_move rfl) rfl ?_
    refine ops_skip rfl rfl ?_
    refine ops_skip rfl rfl ?_
    refine ops_skip rfl rfl ?_
    refine ops_skip rfl rfl ?_
    refine ops_skip rfl rfl ?_
    refine ops_skip rfl rfl ?_
    refine ops_ro' rfl (ro_pick rfl rfl) rfl ?_
    refine ops_ro' rfl (ro_pick rfl rfl) rfl ?_
    refine ops_ro' rfl (ro_move rfl) rfl ?_
    refine ops_eff' rfl (eff_call Try.call29 rfl rfl (Split.nil _) (known1_spec)) rfl ?_
    rintro _ H' ⟨_, ⟨rfl, rfl⟩, hH⟩
    simp only [List.cons_append, List.nil_append, List.eraseIdx_cons_zero, List.eraseIdx_cons_succ, List.set_cons_zero, List.set_cons_succ] at hH
    subst hH
    refine ops_ro' rfl (ro_pick rfl rfl) rfl ?_
    refine ops_ro' rfl (ro_assign rfl) rfl ?_
    refine ops_nil ?_
    repeat (first | refine InBlock_normal ?_ | refine NoGoto_normal ?_ | refine Jump_normal ?_)
    refine Then_normal ?_
    refine wp_ret' ?_
    repeat (first | refine Then_ret ?_ | refine InBlock_ret ?_ | refine NoGoto_ret ?_ | refine Jump_ret ?_)
    refine done_ret (res1 rfl rfl) ?_
    exact ⟨rfl, by simp⟩

end Go.Proofs.Ytbiohhfibkolgaa
