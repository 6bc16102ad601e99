/-
  What the writers and the reader of package strongroomref1 do.
-/
import Derived.Test.YtigaolglnnjnmaaRead
import Derived.Test.YtigaolglnnjnmaaPAttr
namespace Go.Proofs.Ytigaolglnnjnmaa
open Go.Sx
set_option linter.unusedVariables false
set_option linter.unusedSimpArgs false
set_option maxRecDepth 100000

/-- a slice of ours that has these bytes -/
def Rowo (v : Value) (l : List UInt8) (A : HProp) : Prop := ∃ p c, v = .slice p l.length c ∧ A = row 5 1 (.slice p l.length c) l.length (cel l)
theorem shr32 (n s : Nat) (h : s ≤ 3) : ((n : Nat) : Int).fdiv (2 ^ (min ((8 * s : Nat) : Int).toNat (IntKind.bits .u32))) = ((n / 256 ^ s : Nat) : Int) := by
  have e : min ((8 * s : Nat) : Int).toNat (IntKind.bits .u32) = 8 * s := by
    rw [Int.toNat_natCast]; exact Nat.min_eq_left (show 8 * s ≤ 32 by omega)
  rw [e, Int.fdiv_eq_ediv_of_nonneg _ (by exact Int.le_of_lt (Int.pow_pos (by omega)))]
  have h2 : (2 : Int) ^ (8 * s) = ((256 ^ s : Nat) : Int) := by
    have : (256 ^ s : Nat) = 2 ^ (8 * s) := by rw [Nat.pow_mul]
    rw [this]; simp
  rw [h2]; simp
theorem conv8 (m : Nat) : IntKind.u8.wrap (m : Int) = ((UInt8.ofNat m).toNat : Int) := by rw [wrap_u8_mod, UInt8.toNat_ofNat']; omega
theorem conv80 (m : Nat) : IntKind.u8.wrap (m : Int) = ((UInt8.ofNat (m / 256 ^ 0)).toNat : Int) := by rw [Nat.pow_zero, Nat.div_one]; exact conv8 m
theorem w32_run (V : HProp) (p : Option Addr) (c : Nat) (l : List UInt8) (n : Nat) (hV : Vw V (.slice p l.length c) l.length (cel l)) (hl : l.length ≤ 140737488355000) :
    Tri Try.prog 53 [.slice p l.length c, .int .u32 n] [V] (fun v H' => ∃ A, Rowo v (l ++ be n 4) A ∧ ∃ X, H' = [X, A, V]) := by
  refine tri_of_wp Try.func53 rfl Try.ntmps53 (by simp) ?_
  refine wp_seq' ?_
  refine wp_region' ?_
  refine ops_ro' rfl (ro_assign rfl) rfl ?_
  refine ops_nil ?_
  repeat (first | refine InBlock_normal ?_ | refine NoGoto_normal ?_ | refine Jump_normal ?_)
  refine Then_normal ?_
  refine wp_seq' ?_
  refine wp_region' ?_
  refine ops_eff' rfl (eff_buildSlice rfl (sbld (cs := []) [] sl32 (by decide) (by kernel_rfl) rfl)) rfl ?_
  rintro _ _ ⟨b5, rfl, rfl⟩
  refine ops_ro' rfl (ro_move rfl) rfl ?_
  refine ops_eff' rfl (eff_appendLit (src := .slice p l.length c) (m := l.length) (news := cel l) 0 sl32 (.inl ⟨_, Try.underlying32⟩) rfl rfl rfl rfl (Src.of_vw (Vw.pick 0 rfl hV) (by simp [cel_length]) (cel_one l)) (by omega) (by simp only [maxLen]; omega)) rfl ?_
  rintro _ _ ⟨b', c', rfl, rfl⟩
  refine ops_ro' rfl (ro_move rfl) rfl ?_
  refine ops_ro' rfl (ro_shr rfl rfl (by omega) (shr32 n 3 (by omega))) rfl ?_
  refine ops_ro' rfl (ro_conv Try.underlying40 Try.underlying5 rfl (conv8 _)) rfl ?_
  refine ops_ro' rfl (ro_move rfl) rfl ?_
  refine ops_ro' rfl (ro_shr rfl rfl (by omega) (shr32 n 2 (by omega))) rfl ?_
  refine ops_ro' rfl (ro_conv Try.underlying40 Try.underlying5 rfl (conv8 _)) rfl ?_
  refine ops_ro' rfl (ro_move rfl) rfl ?_
  refine ops_ro' rfl (ro_shr rfl rfl (by omega) (shr32 n 1 (by omega))) rfl ?_
  refine ops_ro' rfl (ro_conv Try.underlying40 Try.underlying5 rfl (conv8 _)) rfl ?_
  refine ops_ro' rfl (ro_move rfl) rfl ?_
  refine ops_ro' rfl (ro_conv Try.underlying40 Try.underlying5 rfl (conv80 n)) rfl ?_
  refine ops_eff' rfl (eff_buildSlice rfl (sbld (cs := [_, _, _, _]) [(.int .u8 0), (.int .u8 0), (.int .u8 0), (.int .u8 0)] sl32 (by decide) (by kernel_rfl) rfl)) rfl ?_
  rintro _ _ ⟨b19, rfl, rfl⟩
  refine ops_eff' rfl (eff_append (m := 4) (news := cel (be n 4)) 1 sl32 (.inl ⟨_, Try.underlying32⟩) rfl rfl rfl (Src.of_vw (m := 4) (Vw.pick 0 rfl (Vw.rd rdn_all)) rfl (cel_one _)) (by omega) (by simp only [maxLen]; omega)) rfl ?_
  rintro _ _ ⟨_, ⟨p2, c2, rfl, -, rfl⟩, rfl⟩
  refine ops_ro' rfl (ro_assign rfl) rfl ?_
  refine ops_nil ?_
  repeat (first | refine InBlock_normal ?_ | refine NoGoto_normal ?_ | refine Jump_normal ?_)
  refine Then_normal ?_
  refine wp_ret' ?_
  repeat (first | refine Then_ret ?_ | refine InBlock_ret ?_ | refine NoGoto_ret ?_ | refine Jump_ret ?_)
  refine done_ret (res1 rfl rfl) ?_
  refine ⟨_, ⟨p2, c2, ?_, ?_⟩, _, rfl⟩
  · simp [be_length]
  · simp [be_length, cel_append]
theorem w32_spec (V : HProp) (p : Option Addr) (c : Nat) (l : List UInt8) (n : Nat) (hV : Vw V (.slice p l.length c) l.length (cel l)) (hl : l.length ≤ 140737488355000) :
    Tri Try.prog 53 [.slice p l.length c, .int .u32 n] [V] (fun v H' => ∃ A, Rowo v (l ++ be n 4) A ∧ H' = [A, V]) :=
  tri_weak (w32_run V p c l n hV hl) fun v H ⟨A, h1, X, h2⟩ => ⟨_, ⟨A, h1, rfl⟩, fun w F s => by subst h2; exact St_drop 0 s⟩
theorem w32_at (V : HProp) (p : Option Addr) (c : Nat) (l : List UInt8) (n : Nat) (nn : Int) (hn : nn = (n : Int)) (hV : Vw V (.slice p l.length c) l.length (cel l)) (hl : l.length ≤ 140737488355000) :
    Tri Try.prog 53 [.slice p l.length c, .int .u32 nn] [V] (fun v H' => ∃ A, Rowo v (l ++ be n 4) A ∧ H' = [A, V]) := by
  subst hn; exact w32_spec V p c l n hV hl


theorem shr64 (n : Nat) : ((n : Nat) : Int).fdiv (2 ^ (min (32 : Int).toNat (IntKind.bits .u64))) = ((n / 4294967296 : Nat) : Int) := by
  have e : (2 : Int) ^ (min (32 : Int).toNat (IntKind.bits .u64)) = 4294967296 := by decide
  rw [e, Int.fdiv_eq_ediv_of_nonneg _ (by decide)]; omega
theorem conv32 (m : Nat) : IntKind.u32.wrap (m : Int) = ((m % 4294967296 : Nat) : Int) := by rw [wrap_u32_mod]; omega
theorem be8 (n : Nat) : be n 8 = be (n / 4294967296) 4 ++ be n 4 := by
  have h : ∀ k, n / 4294967296 / 256 ^ k = n / 256 ^ (k + 4) := fun k => by rw [Nat.div_div_eq_div_mul, Nat.pow_add, Nat.mul_comm]
  simp only [be, h, List.cons_append, List.nil_append]
theorem w64_run (V : HProp) (p : Option Addr) (c : Nat) (l : List UInt8) (n : Nat) (hV : Vw V (.slice p l.length c) l.length (cel l)) (hl : l.length ≤ 140737488354000) :
    Tri Try.prog 69 [.slice p l.length c, .int .u64 n] [V] (fun v H' => ∃ A, Rowo v (l ++ be n 8) A ∧ ∃ X, H' = [A, X, V]) := by
  refine tri_of_wp Try.func69 rfl Try.ntmps69 (by simp) ?_
  refine wp_seq' ?_
  refine wp_region' ?_
  refine ops_ro' rfl (ro_assign rfl) rfl ?_
  refine ops_nil ?_
  repeat (first | refine InBlock_normal ?_ | refine NoGoto_normal ?_ | refine Jump_normal ?_)
  refine Then_normal ?_
  refine wp_seq' ?_
  refine wp_region' ?_
  refine ops_ro' rfl (ro_move rfl) rfl ?_
  refine ops_ro' rfl (ro_move rfl) rfl ?_
  refine ops_ro' rfl (ro_shr rfl rfl (by omega) (shr64 n)) rfl ?_
  refine ops_ro' rfl (ro_conv Try.underlying52 Try.underlying40 rfl (conv32 _)) rfl ?_
  refine ops_eff' rfl (eff_call Try.call53 rfl rfl (by first | exact Split.cons 0 rfl (Split.nil _) | exact Split.cons 1 rfl (Split.nil _) | exact Split.cons 2 rfl (Split.nil _) | exact Split.cons 3 rfl (Split.nil _) | exact Split.cons 4 rfl (Split.nil _) | exact Split.cons 5 rfl (Split.nil _) | exact Split.cons 6 rfl (Split.nil _) | exact Split.cons 7 rfl (Split.nil _)) (w32_at V p c l _ _ rfl hV (by omega))) rfl ?_
  rintro _ H' ⟨_, ⟨_, ⟨p1, c1, rfl, rfl⟩, rfl⟩, hH⟩
  simp only [List.cons_append, List.nil_append, List.eraseIdx_cons_zero, List.eraseIdx_cons_succ, List.set_cons_zero, List.set_cons_succ] at hH
  subst hH
  refine ops_ro' rfl (ro_move rfl) rfl ?_
  refine ops_ro' rfl (ro_conv Try.underlying52 Try.underlying40 rfl (conv32 _)) rfl ?_
  refine ops_eff' rfl (eff_call Try.call53 rfl rfl (Split.cons 0 rfl (Split.nil _)) (w32_at _ _ _ _ _ _ rfl Vw.row (by simp only [List.length_append, be_length]; omega))) rfl ?_
  rintro _ H' ⟨_, ⟨_, ⟨p2, c2, rfl, rfl⟩, rfl⟩, hH⟩
  simp only [List.cons_append, List.nil_append, List.eraseIdx_cons_zero, List.eraseIdx_cons_succ, List.set_cons_zero, List.set_cons_succ] at hH
  subst hH
  refine ops_ro' rfl (ro_assign rfl) rfl ?_
  refine ops_nil ?_
  repeat (first | refine InBlock_normal ?_ | refine NoGoto_normal ?_ | refine Jump_normal ?_)
  refine Then_normal ?_
  refine wp_ret' ?_
  repeat (first | refine Then_ret ?_ | refine InBlock_ret ?_ | refine NoGoto_ret ?_ | refine Jump_ret ?_)
  refine done_ret (res1 rfl rfl) ?_
  refine ⟨_, ⟨p2, c2, ?_, ?_⟩, _, rfl⟩
  · rw [be8]; simp [be_length]
  · rw [be8, be_mod, be_mod]; simp only [List.append_assoc]
theorem w64_spec (V : HProp) (p : Option Addr) (c : Nat) (l : List UInt8) (n : Nat) (hV : Vw V (.slice p l.length c) l.length (cel l)) (hl : l.length ≤ 140737488354000) :
    Tri Try.prog 69 [.slice p l.length c, .int .u64 n] [V] (fun v H' => ∃ A, Rowo v (l ++ be n 8) A ∧ H' = [A, V]) :=
  tri_weak (w64_run V p c l n hV hl) fun v H ⟨A, h1, X, h2⟩ => ⟨_, ⟨A, h1, rfl⟩, fun w F s => by subst h2; exact St_drop 1 s⟩

end Go.Proofs.Ytigaolglnnjnmaa
