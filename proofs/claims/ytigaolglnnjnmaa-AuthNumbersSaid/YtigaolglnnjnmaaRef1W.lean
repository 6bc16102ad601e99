/-
  The other writers of package strongroomref1; Bool and Raw of the writer.
-/
import Derived.Test.YtigaolglnnjnmaaRef1
import Derived.Test.YtigaolglnnjnmaaNames
namespace Go.Proofs.Ytigaolglnnjnmaa
open Go.Sx
set_option linter.unusedVariables false
set_option linter.unusedSimpArgs false
set_option maxRecDepth 100000

theorem conv_b8 (i : Int) : IntKind.u8.wrap i = ((b8 i).toNat : Int) := by
  rw [wrap_u8_mod]; unfold b8; rw [UInt8.toNat_ofNat']; omega
theorem qbyte_run (V : HProp) (p : Option Addr) (c : Nat) (l : List UInt8) (hV : Vw V (.slice p l.length c) l.length (cel l)) (hl : l.length ≤ 140737488354000) (i : Int) : Tri Try.prog 82 [.slice p l.length c, .int .i64 i] [V] (fun v H' => ∃ A, Rowo v (l ++ [b8 i]) A ∧ ∃ X, H' = [X, A, V]) := by
  refine tri_of_wp Try.func82 rfl Try.ntmps82 (by simp) ?_
  refine wp_seq' ?_
  refine wp_region' ?_
  refine ops_ro' rfl (ro_assign rfl) rfl ?_
  refine ops_nil ?_
  repeat (first | refine InBlock_normal ?_ | refine NoGoto_normal ?_ | refine Jump_normal ?_)
  refine Then_normal ?_
  refine wp_seq' ?_
  refine wp_region' ?_
  refine ops_eff' rfl (eff_buildSlice rfl (sbld (cs := []) [] sl32 (by decide) (by kernel_rfl) rfl)) rfl ?_
  rintro _ _ ⟨b5, rfl, rfl⟩
  refine ops_ro' rfl (ro_move rfl) rfl ?_
  refine ops_eff' rfl (eff_appendLit (src := .slice p l.length c) (m := l.length) (news := cel l) 0 sl32 (.inl ⟨_, Try.underlying32⟩) rfl rfl rfl rfl (Src.of_vw (Vw.pick 0 rfl hV) (by simp [cel_length]) (cel_one l)) (by omega) (by simp only [maxLen]; omega)) rfl ?_
  rintro _ _ ⟨b', c', rfl, rfl⟩
  refine ops_ro' rfl (ro_move rfl) rfl ?_
  refine ops_ro' rfl (ro_conv Try.underlying3 Try.underlying5 rfl (conv_b8 i)) rfl ?_
  refine ops_eff' rfl (eff_buildSlice rfl (sbld (cs := [_]) [(.int .u8 0)] sl32 (by decide) (by kernel_rfl) rfl)) rfl ?_
  rintro _ _ ⟨b10, rfl, rfl⟩
  refine ops_eff' rfl (eff_append (m := 1) (news := cel [b8 i]) 1 sl32 (.inl ⟨_, Try.underlying32⟩) rfl rfl rfl (Src.of_vw (m := 1) (Vw.pick 0 rfl (Vw.rd rdn_all)) rfl (cel_one _)) (by omega) (by simp only [maxLen]; omega)) rfl ?_
  rintro _ _ ⟨_, ⟨p2, c2, rfl, -, rfl⟩, rfl⟩
  refine ops_ro' rfl (ro_assign rfl) rfl ?_
  refine ops_nil ?_
  repeat (first | refine InBlock_normal ?_ | refine NoGoto_normal ?_ | refine Jump_normal ?_)
  refine Then_normal ?_
  refine wp_ret' ?_
  repeat (first | refine Then_ret ?_ | refine InBlock_ret ?_ | refine NoGoto_ret ?_ | refine Jump_ret ?_)
  refine done_ret (res1 rfl rfl) ?_
  refine ⟨_, ⟨p2, c2, ?_, ?_⟩, _, rfl⟩
  · simp
  · simp [cel_append]
theorem qbyte_spec (V : HProp) (p : Option Addr) (c : Nat) (l : List UInt8) (hV : Vw V (.slice p l.length c) l.length (cel l)) (hl : l.length ≤ 140737488354000) (i : Int) : Tri Try.prog 82 [.slice p l.length c, .int .i64 i] [V] (fun v H' => ∃ A, Rowo v (l ++ [b8 i]) A ∧ H' = [A, V]) :=
  tri_weak (qbyte_run V p c l hV hl i) fun v H ⟨A, h1, X, h2⟩ => ⟨_, ⟨A, h1, rfl⟩, fun w F s => by subst h2; exact St_drop 0 s⟩


theorem qbool_spec (V : HProp) (p : Option Addr) (c : Nat) (l : List UInt8) (hV : Vw V (.slice p l.length c) l.length (cel l)) (hl : l.length ≤ 140737488354000) (b : Bool) : Tri Try.prog 45 [.slice p l.length c, .bool b] [V] (fun v H' => ∃ A, Rowo v (l ++ [b8 (if b then 1 else 0)]) A ∧ H' = [A, V]) := by
  cases b
  · skip
    refine tri_of_wp Try.func45 rfl Try.ntmps45 (by simp) ?_
    refine wp_seq' ?_
    refine wp_region' ?_
    refine ops_ro' rfl (ro_assign rfl) rfl ?_
    refine ops_nil ?_
    repeat (first | refine InBlock_normal ?_ | refine NoGoto_normal ?_ | refine Jump_normal ?_)
    refine Then_normal ?_
    refine wp_seq' ?_
    refine wp_seq' ?_
    refine wp_region' ?_
    refine ops_ro' rfl (ro_move rfl) rfl ?_
    refine ops_nil ?_
    repeat (first | refine InBlock_normal ?_ | refine NoGoto_normal ?_ | refine Jump_normal ?_)
    refine Then_normal ?_
    refine wp_condF rfl ?_
    refine wp_skip' ?_
    repeat (first | refine InBlock_normal ?_ | refine NoGoto_normal ?_ | refine Jump_normal ?_)
    refine Then_normal ?_
    refine wp_seq' ?_
    refine wp_region' ?_
    refine ops_ro' rfl (ro_move rfl) rfl ?_
    refine ops_eff' rfl (eff_call Try.call82 rfl rfl (Split.cons 0 rfl (Split.nil _)) (qbyte_spec V p c l hV hl 0)) rfl ?_
    rintro _ H' ⟨_, ⟨_, ⟨p2, c2, rfl, rfl⟩, rfl⟩, hH⟩
    simp only [List.cons_append, List.nil_append, List.eraseIdx_cons_zero, List.eraseIdx_cons_succ, List.set_cons_zero, List.set_cons_succ] at hH
    subst hH
    refine ops_ro' rfl (ro_assign rfl) rfl ?_
    refine ops_nil ?_
    repeat (first | refine InBlock_normal ?_ | refine NoGoto_normal ?_ | refine Jump_normal ?_)
    refine Then_normal ?_
    refine wp_ret' ?_
    repeat (first | refine Then_ret ?_ | refine InBlock_ret ?_ | refine NoGoto_ret ?_ | refine Jump_ret ?_)
    refine done_ret (res1 rfl rfl) ?_
    exact ⟨_, ⟨p2, c2, rfl, rfl⟩, rfl⟩
  · skip
    refine tri_of_wp Try.func45 rfl Try.ntmps45 (by simp) ?_
    refine wp_seq' ?_
    refine wp_region' ?_
    refine ops_ro' rfl (ro_assign rfl) rfl ?_
    refine ops_nil ?_
    repeat (first | refine InBlock_normal ?_ | refine NoGoto_normal ?_ | refine Jump_normal ?_)
    refine Then_normal ?_
    refine wp_seq' ?_
    refine wp_seq' ?_
    refine wp_region' ?_
    refine ops_ro' rfl (ro_move rfl) rfl ?_
    refine ops_nil ?_
    repeat (first | refine InBlock_normal ?_ | refine NoGoto_normal ?_ | refine Jump_normal ?_)
    refine Then_normal ?_
    refine wp_condT rfl ?_
    refine wp_seq' ?_
    refine wp_region' ?_
    refine ops_ro' rfl (ro_move rfl) rfl ?_
    refine ops_eff' rfl (eff_call Try.call82 rfl rfl (Split.cons 0 rfl (Split.nil _)) (qbyte_spec V p c l hV hl 1)) rfl ?_
    rintro _ H' ⟨_, ⟨_, ⟨p2, c2, rfl, rfl⟩, rfl⟩, hH⟩
    simp only [List.cons_append, List.nil_append, List.eraseIdx_cons_zero, List.eraseIdx_cons_succ, List.set_cons_zero, List.set_cons_succ] at hH
    subst hH
    refine ops_ro' rfl (ro_assign rfl) rfl ?_
    refine ops_nil ?_
    repeat (first | refine InBlock_normal ?_ | refine NoGoto_normal ?_ | refine Jump_normal ?_)
    refine Then_normal ?_
    refine wp_ret' ?_
    repeat (first | refine Then_ret ?_ | refine InBlock_ret ?_ | refine NoGoto_ret ?_ | refine Jump_ret ?_)
    refine done_ret (res1 rfl rfl) ?_
    exact ⟨_, ⟨p2, c2, rfl, rfl⟩, rfl⟩
theorem qtext_spec (V : HProp) (p : Option Addr) (c : Nat) (l : List UInt8) (hV : Vw V (.slice p l.length c) l.length (cel l)) (hl : l.length ≤ 140737488354000) (s : ByteArray) (hs : s.size ≤ 35184372088832) (hl2 : l.length ≤ 35184372088832) : Tri Try.prog 44 [.slice p l.length c, .string s] [V] (fun v H' => ∃ A, Rowo v (l ++ (be s.size 4 ++ s.data.toList)) A ∧ H' = [A, V]) := by
  refine tri_of_wp Try.func44 rfl Try.ntmps44 (by simp) ?_
  refine wp_seq' ?_
  refine wp_region' ?_
  refine ops_ro' rfl (ro_assign rfl) rfl ?_
  refine ops_nil ?_
  repeat (first | refine InBlock_normal ?_ | refine NoGoto_normal ?_ | refine Jump_normal ?_)
  refine Then_normal ?_
  refine wp_seq' ?_
  refine wp_region' ?_
  refine ops_ro' rfl (ro_move rfl) rfl ?_
  refine ops_ro' rfl (ro_move rfl) rfl ?_
  refine ops_ro' rfl (ro_strLen (t' := 0) Try.underlying9 rfl) rfl ?_
  refine ops_ro' rfl (ro_conv Try.underlying3 Try.underlying40 rfl (conv32 s.size)) rfl ?_
  refine ops_eff' rfl (eff_call Try.call53 rfl rfl (Split.cons 0 rfl (Split.nil _)) (w32_at V p c l _ _ rfl hV (by omega))) rfl ?_
  rintro _ H' ⟨_, ⟨_, ⟨p1, c1, rfl, rfl⟩, rfl⟩, hH⟩
  simp only [List.cons_append, List.nil_append, List.eraseIdx_cons_zero, List.eraseIdx_cons_succ, List.set_cons_zero, List.set_cons_succ] at hH
  subst hH
  refine ops_ro' rfl (ro_move rfl) rfl ?_
  refine ops_eff' rfl (eff_append 0 sl32 (.inr Try.underlying9) rfl rfl rfl (Src.str _ s) (by simp only [List.length_append, be_length]; omega) (by simp only [maxLen, List.length_append, be_length]; omega)) rfl ?_
  rintro _ _ ⟨_, ⟨p2, c2, rfl, -, rfl⟩, rfl⟩
  refine ops_ro' rfl (ro_assign rfl) rfl ?_
  refine ops_nil ?_
  repeat (first | refine InBlock_normal ?_ | refine NoGoto_normal ?_ | refine Jump_normal ?_)
  refine Then_normal ?_
  refine wp_ret' ?_
  repeat (first | refine Then_ret ?_ | refine InBlock_ret ?_ | refine NoGoto_ret ?_ | refine Jump_ret ?_)
  refine done_ret (res1 rfl rfl) ?_
  refine ⟨_, ⟨p2, c2, ?_, ?_⟩, rfl⟩
  · simp [be_length]; omega
  · rw [be_mod]; simp [be_length, cel_append, bts_cel, Nat.add_assoc]
theorem wbool_spec (pw : Nat) (p : Option Addr) (c : Nat) (l : List UInt8) (b : Bool) (hl : l.length ≤ 70368744177664) :
    Tri Try.prog 116 [.pointer (some ⟨pw, 0, none⟩), .bool b] (wr pw p c l) (fun v H' => ∃ p' c', v = .tuple #[] ∧ H' = wr pw p' c' (l ++ [b8 (if b then 1 else 0)])) := by
  cases b
  · skip
    refine tri_of_wp Try.func116 rfl Try.ntmps116 (by simp) ?_
    refine wp_seq' ?_
    refine wp_region' ?_
    refine ops_ro' rfl (ro_assign rfl) rfl ?_
    refine ops_nil ?_
    repeat (first | refine InBlock_normal ?_ | refine NoGoto_normal ?_ | refine Jump_normal ?_)
    refine Then_normal ?_
    refine wp_seq' ?_
    refine wp_seq' ?_
    refine wp_region' ?_
    refine ops_ro' rfl (ro_move rfl) rfl ?_
    refine ops_nil ?_
    repeat (first | refine InBlock_normal ?_ | refine NoGoto_normal ?_ | refine Jump_normal ?_)
    refine Then_normal ?_
    refine wp_condF rfl ?_
    refine wp_skip' ?_
    repeat (first | refine InBlock_normal ?_ | refine NoGoto_normal ?_ | refine Jump_normal ?_)
    refine Then_normal ?_
    refine wp_region' ?_
    refine ops_ro' rfl (ro_move rfl) rfl ?_
    refine ops_ro' rfl (ro_move rfl) rfl ?_
    refine ops_eff' rfl (eff_call Try.call49 rfl rfl (Split.cons 0 rfl (Split.cons 0 rfl (Split.nil _))) (byte_spec pw p c l 0 (by omega))) rfl ?_
    rintro _ H' ⟨_, ⟨p', c', rfl, rfl⟩, hH⟩
    simp only [List.cons_append, List.nil_append, List.eraseIdx_cons_zero, List.eraseIdx_cons_succ, List.set_cons_zero, List.set_cons_succ] at hH
    subst hH
    refine ops_nil ?_
    repeat (first | refine InBlock_normal ?_ | refine NoGoto_normal ?_ | refine Jump_normal ?_)
    refine done_normal (res0 rfl) ?_
    exact ⟨p', c', rfl, rfl⟩
  · skip
    refine tri_of_wp Try.func116 rfl Try.ntmps116 (by simp) ?_
    refine wp_seq' ?_
    refine wp_region' ?_
    refine ops_ro' rfl (ro_assign rfl) rfl ?_
    refine ops_nil ?_
    repeat (first | refine InBlock_normal ?_ | refine NoGoto_normal ?_ | refine Jump_normal ?_)
    refine Then_normal ?_
    refine wp_seq' ?_
    refine wp_seq' ?_
    refine wp_region' ?_
    refine ops_ro' rfl (ro_move rfl) rfl ?_
    refine ops_nil ?_
    repeat (first | refine InBlock_normal ?_ | refine NoGoto_normal ?_ | refine Jump_normal ?_)
    refine Then_normal ?_
    refine wp_condT rfl ?_
    refine wp_region' ?_
    refine ops_ro' rfl (ro_assign rfl) rfl ?_
    refine ops_nil ?_
    repeat (first | refine InBlock_normal ?_ | refine NoGoto_normal ?_ | refine Jump_normal ?_)
    refine Then_normal ?_
    refine wp_region' ?_
    refine ops_ro' rfl (ro_move rfl) rfl ?_
    refine ops_ro' rfl (ro_move rfl) rfl ?_
    refine ops_eff' rfl (eff_call Try.call49 rfl rfl (Split.cons 0 rfl (Split.cons 0 rfl (Split.nil _))) (byte_spec pw p c l 1 (by omega))) rfl ?_
    rintro _ H' ⟨_, ⟨p', c', rfl, rfl⟩, hH⟩
    simp only [List.cons_append, List.nil_append, List.eraseIdx_cons_zero, List.eraseIdx_cons_succ, List.set_cons_zero, List.set_cons_succ] at hH
    subst hH
    refine ops_nil ?_
    repeat (first | refine InBlock_normal ?_ | refine NoGoto_normal ?_ | refine Jump_normal ?_)
    refine done_normal (res0 rfl) ?_
    exact ⟨p', c', rfl, rfl⟩

end Go.Proofs.Ytigaolglnnjnmaa
