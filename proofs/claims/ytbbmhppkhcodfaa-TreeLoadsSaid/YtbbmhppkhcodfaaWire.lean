/-
  What the writer and the reader of package wire do.
-/
import Derived.Test.YtbbmhppkhcodfaaTy
namespace Go.Proofs.Ytbbmhppkhcodfaa
open Go.Sx
set_option linter.unusedVariables false
set_option linter.unusedSimpArgs false
set_option maxRecDepth 100000

/-- a copy's slice is nil just if the elder is, and begins its own array -/
def Alike (p p' : Option Addr) : Prop := (p = none ∧ p' = none) ∨ (p ≠ none ∧ ∃ b, p' = some ⟨b, 0, none⟩)
theorem clone_some (V : HProp) (a : Addr) (m c : Nat) (xs : List Value) (hV : Vw V (.slice (some a) m c) m xs) (hl : xs.length = m) (hone : ∀ v ∈ xs, v.oneCell' = true) (hm : m ≤ 140737488355328) :
    Tri Try.prog 40 [.slice (some a) m c] [V] (fun r H' => ∃ p' c', r = .slice p' m c' ∧ Alike (some a) p' ∧ H' = [row 5 1 (.slice p' m c') m xs, V]) := by
  refine tri_of_wp Try.func40 rfl Try.ntmps40 (by simp) ?_
  refine wp_seq' ?_
  refine wp_region' ?_
  refine ops_ro' rfl (ro_assign rfl) rfl ?_
  refine ops_nil ?_
  repeat (first | refine InBlock_normal ?_ | refine NoGoto_normal ?_ | refine Jump_normal ?_)
  refine Then_normal ?_
  refine wp_seq' ?_
  refine wp_seq' ?_
  refine wp_region' ?_
  refine ops_ro' rfl (ro_move rfl) rfl ?_
  refine ops_ro' rfl (ro_sliceEqlNil Try.underlying30 rfl rfl rfl) rfl ?_
  refine ops_nil ?_
  repeat (first | refine InBlock_normal ?_ | refine NoGoto_normal ?_ | refine Jump_normal ?_)
  refine Then_normal ?_
  refine wp_condF rfl ?_
  refine wp_skip' ?_
  repeat (first | refine InBlock_normal ?_ | refine NoGoto_normal ?_ | refine Jump_normal ?_)
  refine Then_normal ?_
  refine wp_seq' ?_
  refine wp_region' ?_
  refine ops_eff' rfl (eff_buildSlice rfl (sbld (cs := []) [] sl30 (by decide) (by kernel_rfl) rfl)) rfl ?_
  rintro _ _ ⟨b5, rfl, rfl⟩
  refine ops_ro' rfl (ro_move rfl) rfl ?_
  refine ops_eff' rfl (eff_appendLit 0 sl30 (.inl ⟨5, Try.underlying30⟩) rfl rfl rfl rfl (Src.of_vw (Vw.pick 0 rfl hV) (by omega) hone) (by omega) (by simp only [maxLen]; omega)) rfl ?_
  rintro _ _ ⟨b', c', rfl, rfl⟩
  simp only [Nat.zero_add, List.nil_append, List.set_cons_zero]
  refine ops_ro' rfl (ro_assign rfl) rfl ?_
  refine ops_nil ?_
  repeat (first | refine InBlock_normal ?_ | refine NoGoto_normal ?_ | refine Jump_normal ?_)
  refine Then_normal ?_
  refine wp_ret' ?_
  repeat (first | refine Then_ret ?_ | refine InBlock_ret ?_ | refine NoGoto_ret ?_ | refine Jump_ret ?_)
  refine done_ret (res1 rfl rfl) ?_
  exact ⟨some ⟨b', 0, none⟩, c', by simp, .inr ⟨by simp, b', rfl⟩, rfl⟩
theorem clone_nil (V : HProp) :
    Tri Try.prog 40 [.slice none 0 0] [V] (fun r H' => ∃ p' c', r = .slice p' 0 c' ∧ Alike none p' ∧ H' = [row 5 1 (.slice p' 0 c') 0 [], V]) := by
  refine tri_of_wp Try.func40 rfl Try.ntmps40 (by simp) ?_
  refine wp_seq' ?_
  refine wp_region' ?_
  refine ops_ro' rfl (ro_assign rfl) rfl ?_
  refine ops_nil ?_
  repeat (first | refine InBlock_normal ?_ | refine NoGoto_normal ?_ | refine Jump_normal ?_)
  refine Then_normal ?_
  refine wp_seq' ?_
  refine wp_seq' ?_
  refine wp_region' ?_
  refine ops_ro' rfl (ro_move rfl) rfl ?_
  refine ops_ro' rfl (ro_sliceEqlNil Try.underlying30 rfl rfl rfl) rfl ?_
  refine ops_nil ?_
  repeat (first | refine InBlock_normal ?_ | refine NoGoto_normal ?_ | refine Jump_normal ?_)
  refine Then_normal ?_
  refine wp_condT rfl ?_
  refine wp_seq' ?_
  refine wp_heap (fun w F => nil_row 5 1 w F) ?_
  refine wp_region' ?_
  refine ops_ro' rfl (ro_assign rfl) rfl ?_
  refine ops_nil ?_
  repeat (first | refine InBlock_normal ?_ | refine NoGoto_normal ?_ | refine Jump_normal ?_)
  refine Then_normal ?_
  refine wp_ret' ?_
  repeat (first | refine Then_ret ?_ | refine InBlock_ret ?_ | refine NoGoto_ret ?_ | refine Jump_ret ?_)
  refine done_ret (res1 rfl rfl) ?_
  exact ⟨none, 0, rfl, .inl ⟨rfl, rfl⟩, rfl⟩
theorem clone_spec (V : HProp) (p : Option Addr) (m c : Nat) (xs : List Value) (hV : Vw V (.slice p m c) m xs) (hl : xs.length = m) (hone : ∀ v ∈ xs, v.oneCell' = true) (hm : m ≤ 140737488355328) :
    Tri Try.prog 40 [.slice p m c] [V] (fun r H' => ∃ p' c', r = .slice p' m c' ∧ Alike p p' ∧ H' = [row 5 1 (.slice p' m c') m xs, V]) := by
  cases p with
  | some a => exact clone_some V a m c xs hV hl hone hm
  | none =>
    refine tri_know (p := m = 0 ∧ c = 0 ∧ xs = []) (fun w F s => ?_) ?_
    · rcases hV w F (by simpa [St_cons, St_nil, star_emp] using s) with ⟨q, h1, h2, h3⟩ | ⟨b, o, cap, h1, _⟩
      · injection h1 with _ _ h4; exact ⟨h2, h4, h3⟩
      · cases h1
    · rintro ⟨rfl, rfl, rfl⟩; exact clone_nil V


/-- the lowest bytes of a number, the highest first -/
def be (n : Nat) : Nat → List UInt8
  | 0 => []
  | s + 1 => UInt8.ofNat (n / 256 ^ s) :: be n s
theorem be_length (n : Nat) : ∀ s, (be n s).length = s
  | 0 => rfl
  | s + 1 => by simp [be, be_length n s]
theorem conv_be {n s : Nat} (hs : s ≤ 8) : IntKind.u8.wrap ((n : Int).fdiv (2 ^ (min ((8 * (s : Int)).toNat) 64))) = ((UInt8.ofNat (n / 256 ^ s)).toNat : Int) := by
  have h1 : min ((8 * (s : Int)).toNat) 64 = 8 * s := by omega
  have h2 : (2 : Int) ^ (8 * s) = ((256 ^ s : Nat) : Int) := by
    have : (256 ^ s : Nat) = 2 ^ (8 * s) := by rw [Nat.pow_mul]
    rw [this]; simp
  rw [h1, h2, ← Int.ofNat_fdiv, wrap_u8_mod, UInt8.toNat_ofNat']
  omega
/-- a writer in block pw that has these bytes -/
abbrev wr (pw : Nat) (p : Option Addr) (c : Nat) (l : List UInt8) : List HProp :=
  [own pw (.cells [Value.slice p l.length c].toArray 131 (0, 0)), row 5 1 (.slice p l.length c) l.length (cel l)]


theorem put_spec (pw : Nat) (p : Option Addr) (c : Nat) (l : List UInt8) (n size : Nat) (h8 : size ≤ 8) (hl : l.length + size ≤ 140737488355328) :
    Tri Try.prog 76 [.pointer (some ⟨pw, 0, none⟩), .int .u64 n, .int .i64 size] (wr pw p c l) (fun r H' => ∃ p' c', r = .tuple #[] ∧ H' = wr pw p' c' (l ++ be n size)) := by
  refine tri_of_wp Try.func76 rfl Try.ntmps76 (by simp) ?_
  refine wp_again (fun m Γ H => Has Γ [(0, .pointer (some ⟨pw, 0, none⟩)), (1, .int .u64 n), (2, .int .i64 m)] ∧ m ≤ 8 ∧ ∃ p c done, done.length ≤ 8 ∧ done ++ be n m = be n size ∧ H = wr pw p c (l ++ done)) (m := size) ⟨Has.cons rfl (Has.cons rfl (Has.cons rfl (Has.nil _))), h8, p, c, [], by simp, rfl, by simp⟩ ?_
  rintro m Γ H ⟨hΓ, hm8, p, c, done, hd8, hd, rfl⟩
  refine wp_has hΓ ?_
  refine wp_seq' ?_
  refine wp_region' ?_
  refine ops_ro' rfl (ro_move rfl) rfl ?_
  refine ops_ro' rfl (ro_gtr rfl rfl rfl) rfl ?_
  refine ops_nil ?_
  repeat (first | refine InBlock_normal ?_ | refine NoGoto_normal ?_ | refine Jump_normal ?_)
  refine Then_normal ?_
  refine wp_cond' rfl (fun hc0 => ?_) (fun hc0 => ?_)
  · try replace hc0 := of_decide_eq_true hc0
    obtain ⟨m, rfl⟩ : ∃ j, m = j + 1 := ⟨m - 1, by omega⟩
    have hdl := congrArg List.length hd
    simp only [List.length_append, be_length] at hdl
    refine wp_seq' ?_
    refine wp_region' ?_
    refine ops_ro' rfl (ro_move rfl) rfl ?_
    refine ops_ro' rfl (ro_sub rfl rfl (show IntKind.i64.wrap (((m + 1 : Nat) : Int) - 1) = (m : Int) from by rw [wrap_i64_in (by omega) (by omega)]; omega)) rfl ?_
    refine ops_ro' rfl (ro_assign rfl) rfl ?_
    refine ops_nil ?_
    repeat (first | refine InBlock_normal ?_ | refine NoGoto_normal ?_ | refine Jump_normal ?_)
    refine Then_normal ?_
    refine wp_seq' ?_
    refine wp_draw 12 (by kernel_rfl) (Split.cons 0 rfl (Split.nil _)) ?_
    refine any_ro' (i := 0) (by kernel_rfl) rfl rfl (ro_move rfl) rfl (fun _ _ _ h => h) ?_
    refine any_ro' (i := 1) (by kernel_rfl) rfl rfl (ro_move rfl) rfl (fun _ _ _ h => h) ?_
    refine any_ro' (i := 2) (by kernel_rfl) rfl rfl (ro_nilCheck rfl) rfl (fun _ _ _ h => h) ?_
    refine any_ro' (i := 3) (by kernel_rfl) rfl rfl (ro_fieldAddr fa131_0 rfl) rfl (fun _ _ _ h => h) ?_
    refine any_ro' (i := 4) (by kernel_rfl) rfl rfl (ro_load sc30 rfl (by first | exact Rd.pick 0 rfl (by first | exact Rd.own rfl | exact Rd.row rfl) | exact Rd.pick 1 rfl (by first | exact Rd.own rfl | exact Rd.row rfl) | exact Rd.pick 2 rfl (by first | exact Rd.own rfl | exact Rd.row rfl) | exact Rd.pick 3 rfl (by first | exact Rd.own rfl | exact Rd.row rfl) | exact Rd.pick 4 rfl (by first | exact Rd.own rfl | exact Rd.row rfl) | exact Rd.pick 5 rfl (by first | exact Rd.own rfl | exact Rd.row rfl) | exact Rd.pick 6 rfl (by first | exact Rd.own rfl | exact Rd.row rfl) | exact Rd.pick 7 rfl (by first | exact Rd.own rfl | exact Rd.row rfl))) rfl (fun _ _ _ h => h) ?_
    refine any_ro' (i := 5) (by kernel_rfl) rfl rfl (ro_move rfl) rfl (fun _ _ _ h => h) ?_
    refine any_ro' (i := 6) (by kernel_rfl) rfl rfl (ro_move rfl) rfl (fun _ _ _ h => h) ?_
    refine any_ro' (i := 7) (by kernel_rfl) rfl rfl (ro_mul rfl rfl (by first | exact wrap_i64_in (by omega) (by omega) | rfl)) rfl (fun _ _ _ h => h) ?_
    refine any_ro' (i := 8) (by kernel_rfl) rfl rfl (ro_shr rfl rfl (by omega) rfl) rfl (fun _ _ _ h => h) ?_
    refine any_ro' (i := 9) (by kernel_rfl) rfl rfl (ro_conv Try.underlying34 Try.underlying5 rfl (conv_be (by omega))) rfl (fun _ _ _ h => h) ?_
    refine any_eff' (i := 10) (by kernel_rfl) rfl rfl (eff_buildSlice rfl (sbld (cs := [_]) [(.int .u8 0)] sl30 (by decide) (by kernel_rfl) rfl)) rfl ?_
    rintro _ _ ⟨b20, rfl, rfl⟩
    refine any_eff' (i := 11) (by kernel_rfl) rfl rfl (eff_append 1 sl30 (.inl ⟨5, Try.underlying30⟩) rfl rfl rfl (Src.of_vw (m := 1) (Vw.pick 0 rfl (Vw.rd rdn_all)) rfl (by simp [Value.oneCell'])) (by simp; omega) (by simp [maxLen]; omega)) rfl ?_
    rintro _ _ ⟨_, ⟨p', c', rfl, -, rfl⟩, rfl⟩
    refine any_unlock (m' := 15) (L' := []) (by kernel_rfl) unlock ?_
    refine any_ro' (i := 12) (by kernel_rfl) rfl rfl (ro_nilCheck rfl) rfl (fun _ _ _ h => h) ?_
    refine any_ro' (i := 13) (by kernel_rfl) rfl rfl (ro_fieldAddr fa131_0 rfl) rfl (fun _ _ _ h => h) ?_
    refine any_eff0 (i := 14) (by kernel_rfl) rfl rfl ((by first | exact eff_store 0 sc30 rfl rfl rfl rfl (Nat.le_of_ble_eq_true rfl) (warm_zero _) | exact eff_store 1 sc30 rfl rfl rfl rfl (Nat.le_of_ble_eq_true rfl) (warm_zero _) | exact eff_store 2 sc30 rfl rfl rfl rfl (Nat.le_of_ble_eq_true rfl) (warm_zero _) | exact eff_store 3 sc30 rfl rfl rfl rfl (Nat.le_of_ble_eq_true rfl) (warm_zero _) | exact eff_store 4 sc30 rfl rfl rfl rfl (Nat.le_of_ble_eq_true rfl) (warm_zero _) | exact eff_store 5 sc30 rfl rfl rfl rfl (Nat.le_of_ble_eq_true rfl) (warm_zero _) | exact eff_store 6 sc30 rfl rfl rfl rfl (Nat.le_of_ble_eq_true rfl) (warm_zero _) | exact eff_store 7 sc30 rfl rfl rfl rfl (Nat.le_of_ble_eq_true rfl) (warm_zero _))) rfl ?_
    rintro _ _ rfl
    refine any_doneH (by kernel_rfl) ?_
    repeat (first | refine InBlock_normal ?_ | refine NoGoto_normal ?_ | refine Jump_normal ?_)
    refine Then_normal ?_
    refine wp_drop 1 ?_
    refine wp_goto' ?_
    repeat (first | refine Then_goto ?_ | refine InBlock_goto ?_)
    refine Jump_goto ?_
    refine ⟨m, by omega, Has.cons rfl (Has.cons rfl (Has.cons rfl (Has.nil _))), by omega, p', c', done ++ [UInt8.ofNat (n / 256 ^ m)], ?_, ?_, ?_⟩
    · have := congrArg List.length hd; simp [be_length] at this ⊢; omega
    · simpa [be] using hd
    · simp [wr, cel, byteV, Nat.add_assoc]
  · try replace hc0 := of_decide_eq_false hc0
    refine wp_skip' ?_
    repeat (first | refine InBlock_normal ?_ | refine NoGoto_normal ?_ | refine Jump_normal ?_)
    refine done_normal (res0 rfl) ?_
    obtain rfl : m = 0 := by omega
    simp only [be, List.append_nil] at hd
    subst hd
    exact ⟨p, c, rfl, rfl⟩


theorem put_at (pw : Nat) (p : Option Addr) (c : Nat) (l : List UInt8) (n size : Nat) (nn sz : Int) (hn : nn = (n : Int)) (hs : sz = (size : Int)) (h8 : size ≤ 8) (hl : l.length + size ≤ 140737488355328) :
    Tri Try.prog 76 [.pointer (some ⟨pw, 0, none⟩), .int .u64 nn, .int .i64 sz] (wr pw p c l) (fun r H' => ∃ p' c', r = .tuple #[] ∧ H' = wr pw p' c' (l ++ be n size)) := by
  subst hn; subst hs; exact put_spec pw p c l n size h8 hl
/-- the lowest eight bits -/
def b8 (n : Int) : UInt8 := UInt8.ofNat (n % 256).toNat
theorem b8_nat (n : Nat) : b8 (n : Int) = UInt8.ofNat n := by
  unfold b8; apply UInt8.toNat_inj.1; rw [UInt8.toNat_ofNat', UInt8.toNat_ofNat']; omega
theorem be_one (n : Int) : be (n % 18446744073709551616).toNat 1 = [b8 n] := by
  simp only [be, b8]; congr 1; apply UInt8.toNat_inj.1; rw [UInt8.toNat_ofNat', UInt8.toNat_ofNat']; simp; omega


theorem newWriter_spec : Tri Try.prog 45 [] [] (fun r H' => ∃ b, r = .pointer (some ⟨b, 0, none⟩) ∧ H' = wr b none 0 []) := by
  refine tri_of_wp Try.func45 rfl Try.ntmps45 (by simp) ?_
  refine wp_seq' ?_
  refine wp_region' ?_
  refine ops_ro' rfl (ro_assign rfl) rfl ?_
  refine ops_nil ?_
  repeat (first | refine InBlock_normal ?_ | refine NoGoto_normal ?_ | refine Jump_normal ?_)
  refine Then_normal ?_
  refine wp_seq' ?_
  refine wp_region' ?_
  refine ops_ro' rfl (ro_build rfl (bld_struct (cs := [_]) st131 rfl)) rfl ?_
  refine ops_eff' rfl (eff_box rfl) rfl ?_
  rintro _ _ ⟨b2, rfl, rfl⟩
  refine ops_heap (fun w F s => nil_row 5 1 w F s) ?_
  refine ops_heap (fun w F s => St_front 1 rfl s) ?_
  refine ops_ro' rfl (ro_assign rfl) rfl ?_
  refine ops_nil ?_
  repeat (first | refine InBlock_normal ?_ | refine NoGoto_normal ?_ | refine Jump_normal ?_)
  refine Then_normal ?_
  refine wp_ret' ?_
  repeat (first | refine Then_ret ?_ | refine InBlock_ret ?_ | refine NoGoto_ret ?_ | refine Jump_ret ?_)
  refine done_ret (res1 rfl rfl) ?_
  exact ⟨b2, rfl, rfl⟩


theorem byte_spec (pw : Nat) (p : Option Addr) (c : Nat) (l : List UInt8) (n : Int) (hl : l.length + 1 ≤ 140737488355328) :
    Tri Try.prog 101 [.pointer (some ⟨pw, 0, none⟩), .int .i64 n] (wr pw p c l) (fun r H' => ∃ p' c', r = .tuple #[] ∧ H' = wr pw p' c' (l ++ [b8 n])) := by
  refine tri_of_wp Try.func101 rfl Try.ntmps101 (by simp) ?_
  refine wp_region' ?_
  refine ops_ro' rfl (ro_move rfl) rfl ?_
  refine ops_ro' rfl (ro_move rfl) rfl ?_
  refine ops_ro' rfl (ro_conv Try.underlying3 Try.underlying34 rfl (wrap_u64_mod _)) rfl ?_
  refine ops_eff' rfl (eff_call Try.call76 rfl rfl (by first | exact Split.cons 0 rfl (Split.cons 0 rfl (Split.nil _)) | exact Split.cons 1 rfl (Split.cons 1 rfl (Split.nil _)) | exact Split.cons 2 rfl (Split.cons 2 rfl (Split.nil _)) | exact Split.cons 3 rfl (Split.cons 3 rfl (Split.nil _)) | exact Split.cons 4 rfl (Split.cons 4 rfl (Split.nil _)) | exact Split.cons 5 rfl (Split.cons 5 rfl (Split.nil _)) | exact Split.cons 6 rfl (Split.cons 6 rfl (Split.nil _)) | exact Split.cons 7 rfl (Split.cons 7 rfl (Split.nil _)) | exact Split.cons 0 rfl (Split.cons 1 rfl (Split.nil _)) | exact Split.cons 0 rfl (Split.cons 2 rfl (Split.nil _)) | exact Split.cons 0 rfl (Split.cons 3 rfl (Split.nil _)) | exact Split.cons 0 rfl (Split.cons 4 rfl (Split.nil _)) | exact Split.cons 0 rfl (Split.cons 5 rfl (Split.nil _)) | exact Split.cons 0 rfl (Split.cons 6 rfl (Split.nil _)) | exact Split.cons 1 rfl (Split.cons 0 rfl (Split.nil _)) | exact Split.cons 1 rfl (Split.cons 2 rfl (Split.nil _)) | exact Split.cons 1 rfl (Split.cons 3 rfl (Split.nil _)) | exact Split.cons 1 rfl (Split.cons 4 rfl (Split.nil _)) | exact Split.cons 1 rfl (Split.cons 5 rfl (Split.nil _)) | exact Split.cons 1 rfl (Split.cons 6 rfl (Split.nil _)) | exact Split.cons 2 rfl (Split.cons 0 rfl (Split.nil _)) | exact Split.cons 2 rfl (Split.cons 1 rfl (Split.nil _)) | exact Split.cons 2 rfl (Split.cons 3 rfl (Split.nil _)) | exact Split.cons 2 rfl (Split.cons 4 rfl (Split.nil _)) | exact Split.cons 2 rfl (Split.cons 5 rfl (Split.nil _)) | exact Split.cons 2 rfl (Split.cons 6 rfl (Split.nil _)) | exact Split.cons 3 rfl (Split.cons 0 rfl (Split.nil _)) | exact Split.cons 3 rfl (Split.cons 1 rfl (Split.nil _)) | exact Split.cons 3 rfl (Split.cons 2 rfl (Split.nil _)) | exact Split.cons 3 rfl (Split.cons 4 rfl (Split.nil _)) | exact Split.cons 3 rfl (Split.cons 5 rfl (Split.nil _)) | exact Split.cons 3 rfl (Split.cons 6 rfl (Split.nil _)) | exact Split.cons 4 rfl (Split.cons 0 rfl (Split.nil _)) | exact Split.cons 4 rfl (Split.cons 1 rfl (Split.nil _)) | exact Split.cons 4 rfl (Split.cons 2 rfl (Split.nil _)) | exact Split.cons 4 rfl (Split.cons 3 rfl (Split.nil _)) | exact Split.cons 4 rfl (Split.cons 5 rfl (Split.nil _)) | exact Split.cons 4 rfl (Split.cons 6 rfl (Split.nil _)) | exact Split.cons 5 rfl (Split.cons 0 rfl (Split.nil _)) | exact Split.cons 5 rfl (Split.cons 1 rfl (Split.nil _)) | exact Split.cons 5 rfl (Split.cons 2 rfl (Split.nil _)) | exact Split.cons 5 rfl (Split.cons 3 rfl (Split.nil _)) | exact Split.cons 5 rfl (Split.cons 4 rfl (Split.nil _)) | exact Split.cons 5 rfl (Split.cons 6 rfl (Split.nil _)) | exact Split.cons 6 rfl (Split.cons 0 rfl (Split.nil _)) | exact Split.cons 6 rfl (Split.cons 1 rfl (Split.nil _)) | exact Split.cons 6 rfl (Split.cons 2 rfl (Split.nil _)) | exact Split.cons 6 rfl (Split.cons 3 rfl (Split.nil _)) | exact Split.cons 6 rfl (Split.cons 4 rfl (Split.nil _)) | exact Split.cons 6 rfl (Split.cons 5 rfl (Split.nil _)) | exact Split.cons 7 rfl (Split.cons 0 rfl (Split.nil _)) | exact Split.cons 7 rfl (Split.cons 1 rfl (Split.nil _)) | exact Split.cons 7 rfl (Split.cons 2 rfl (Split.nil _)) | exact Split.cons 7 rfl (Split.cons 3 rfl (Split.nil _)) | exact Split.cons 7 rfl (Split.cons 4 rfl (Split.nil _)) | exact Split.cons 7 rfl (Split.cons 5 rfl (Split.nil _)) | exact Split.cons 7 rfl (Split.cons 6 rfl (Split.nil _))) (put_at pw p c l (n % 18446744073709551616).toNat 1 _ _ (by omega) rfl (by omega) hl)) rfl ?_
  rintro _ H' ⟨_, ⟨p', c', rfl, rfl⟩, hH⟩
  simp only [List.cons_append, List.nil_append, List.eraseIdx_cons_zero, List.eraseIdx_cons_succ, List.set_cons_zero, List.set_cons_succ] at hH
  subst hH
  refine ops_nil ?_
  repeat (first | refine InBlock_normal ?_ | refine NoGoto_normal ?_ | refine Jump_normal ?_)
  refine done_normal (res0 rfl) ?_
  exact ⟨p', c', rfl, by rw [be_one]⟩


theorem u32_spec (pw : Nat) (p : Option Addr) (c : Nat) (l : List UInt8) (n : Nat) (hn : n < 4294967296) (hl : l.length + 4 ≤ 140737488355328) :
    Tri Try.prog 78 [.pointer (some ⟨pw, 0, none⟩), .int .u32 n] (wr pw p c l) (fun r H' => ∃ p' c', r = .tuple #[] ∧ H' = wr pw p' c' (l ++ be n 4)) := by
  refine tri_of_wp Try.func78 rfl Try.ntmps78 (by simp) ?_
  refine wp_region' ?_
  refine ops_ro' rfl (ro_move rfl) rfl ?_
  refine ops_ro' rfl (ro_move rfl) rfl ?_
  refine ops_ro' rfl (ro_conv Try.underlying37 Try.underlying34 rfl (by first | exact wrap_u64_in (by omega) (by omega) | exact wrap_u64_mod _)) rfl ?_
  refine ops_eff' rfl (eff_call Try.call76 rfl rfl (by first | exact Split.cons 0 rfl (Split.cons 0 rfl (Split.nil _)) | exact Split.cons 1 rfl (Split.cons 1 rfl (Split.nil _)) | exact Split.cons 2 rfl (Split.cons 2 rfl (Split.nil _)) | exact Split.cons 3 rfl (Split.cons 3 rfl (Split.nil _)) | exact Split.cons 4 rfl (Split.cons 4 rfl (Split.nil _)) | exact Split.cons 5 rfl (Split.cons 5 rfl (Split.nil _)) | exact Split.cons 6 rfl (Split.cons 6 rfl (Split.nil _)) | exact Split.cons 7 rfl (Split.cons 7 rfl (Split.nil _)) | exact Split.cons 0 rfl (Split.cons 1 rfl (Split.nil _)) | exact Split.cons 0 rfl (Split.cons 2 rfl (Split.nil _)) | exact Split.cons 0 rfl (Split.cons 3 rfl (Split.nil _)) | exact Split.cons 0 rfl (Split.cons 4 rfl (Split.nil _)) | exact Split.cons 0 rfl (Split.cons 5 rfl (Split.nil _)) | exact Split.cons 0 rfl (Split.cons 6 rfl (Split.nil _)) | exact Split.cons 1 rfl (Split.cons 0 rfl (Split.nil _)) | exact Split.cons 1 rfl (Split.cons 2 rfl (Split.nil _)) | exact Split.cons 1 rfl (Split.cons 3 rfl (Split.nil _)) | exact Split.cons 1 rfl (Split.cons 4 rfl (Split.nil _)) | exact Split.cons 1 rfl (Split.cons 5 rfl (Split.nil _)) | exact Split.cons 1 rfl (Split.cons 6 rfl (Split.nil _)) | exact Split.cons 2 rfl (Split.cons 0 rfl (Split.nil _)) | exact Split.cons 2 rfl (Split.cons 1 rfl (Split.nil _)) | exact Split.cons 2 rfl (Split.cons 3 rfl (Split.nil _)) | exact Split.cons 2 rfl (Split.cons 4 rfl (Split.nil _)) | exact Split.cons 2 rfl (Split.cons 5 rfl (Split.nil _)) | exact Split.cons 2 rfl (Split.cons 6 rfl (Split.nil _)) | exact Split.cons 3 rfl (Split.cons 0 rfl (Split.nil _)) | exact Split.cons 3 rfl (Split.cons 1 rfl (Split.nil _)) | exact Split.cons 3 rfl (Split.cons 2 rfl (Split.nil _)) | exact Split.cons 3 rfl (Split.cons 4 rfl (Split.nil _)) | exact Split.cons 3 rfl (Split.cons 5 rfl (Split.nil _)) | exact Split.cons 3 rfl (Split.cons 6 rfl (Split.nil _)) | exact Split.cons 4 rfl (Split.cons 0 rfl (Split.nil _)) | exact Split.cons 4 rfl (Split.cons 1 rfl (Split.nil _)) | exact Split.cons 4 rfl (Split.cons 2 rfl (Split.nil _)) | exact Split.cons 4 rfl (Split.cons 3 rfl (Split.nil _)) | exact Split.cons 4 rfl (Split.cons 5 rfl (Split.nil _)) | exact Split.cons 4 rfl (Split.cons 6 rfl (Split.nil _)) | exact Split.cons 5 rfl (Split.cons 0 rfl (Split.nil _)) | exact Split.cons 5 rfl (Split.cons 1 rfl (Split.nil _)) | exact Split.cons 5 rfl (Split.cons 2 rfl (Split.nil _)) | exact Split.cons 5 rfl (Split.cons 3 rfl (Split.nil _)) | exact Split.cons 5 rfl (Split.cons 4 rfl (Split.nil _)) | exact Split.cons 5 rfl (Split.cons 6 rfl (Split.nil _)) | exact Split.cons 6 rfl (Split.cons 0 rfl (Split.nil _)) | exact Split.cons 6 rfl (Split.cons 1 rfl (Split.nil _)) | exact Split.cons 6 rfl (Split.cons 2 rfl (Split.nil _)) | exact Split.cons 6 rfl (Split.cons 3 rfl (Split.nil _)) | exact Split.cons 6 rfl (Split.cons 4 rfl (Split.nil _)) | exact Split.cons 6 rfl (Split.cons 5 rfl (Split.nil _)) | exact Split.cons 7 rfl (Split.cons 0 rfl (Split.nil _)) | exact Split.cons 7 rfl (Split.cons 1 rfl (Split.nil _)) | exact Split.cons 7 rfl (Split.cons 2 rfl (Split.nil _)) | exact Split.cons 7 rfl (Split.cons 3 rfl (Split.nil _)) | exact Split.cons 7 rfl (Split.cons 4 rfl (Split.nil _)) | exact Split.cons 7 rfl (Split.cons 5 rfl (Split.nil _)) | exact Split.cons 7 rfl (Split.cons 6 rfl (Split.nil _))) (put_at _ _ _ _ n 4 _ _ rfl rfl (by omega) (by omega))) rfl ?_
  rintro _ H' ⟨_, ⟨p', c', rfl, rfl⟩, hH⟩
  simp only [List.cons_append, List.nil_append, List.eraseIdx_cons_zero, List.eraseIdx_cons_succ, List.set_cons_zero, List.set_cons_succ] at hH
  subst hH
  refine ops_nil ?_
  repeat (first | refine InBlock_normal ?_ | refine NoGoto_normal ?_ | refine Jump_normal ?_)
  refine done_normal (res0 rfl) ?_
  exact ⟨p', c', rfl, rfl⟩
theorem u32_at (pw : Nat) (p : Option Addr) (c : Nat) (l : List UInt8) (n : Nat) (nn : Int) (hnn : nn = (n : Int)) (hn : n < 4294967296) (hl : l.length + 4 ≤ 140737488355328) :
    Tri Try.prog 78 [.pointer (some ⟨pw, 0, none⟩), .int .u32 nn] (wr pw p c l) (fun r H' => ∃ p' c', r = .tuple #[] ∧ H' = wr pw p' c' (l ++ be n 4)) := by
  subst hnn; exact u32_spec pw p c l n hn hl


theorem u64_spec (pw : Nat) (p : Option Addr) (c : Nat) (l : List UInt8) (n : Nat) (hl : l.length + 8 ≤ 140737488355328) :
    Tri Try.prog 46 [.pointer (some ⟨pw, 0, none⟩), .int .u64 n] (wr pw p c l) (fun r H' => ∃ p' c', r = .tuple #[] ∧ H' = wr pw p' c' (l ++ be n 8)) := by
  refine tri_of_wp Try.func46 rfl Try.ntmps46 (by simp) ?_
  refine wp_region' ?_
  refine ops_ro' rfl (ro_move rfl) rfl ?_
  refine ops_ro' rfl (ro_move rfl) rfl ?_
  refine ops_eff' rfl (eff_call Try.call76 rfl rfl (by first | exact Split.cons 0 rfl (Split.cons 0 rfl (Split.nil _)) | exact Split.cons 1 rfl (Split.cons 1 rfl (Split.nil _)) | exact Split.cons 2 rfl (Split.cons 2 rfl (Split.nil _)) | exact Split.cons 3 rfl (Split.cons 3 rfl (Split.nil _)) | exact Split.cons 4 rfl (Split.cons 4 rfl (Split.nil _)) | exact Split.cons 5 rfl (Split.cons 5 rfl (Split.nil _)) | exact Split.cons 6 rfl (Split.cons 6 rfl (Split.nil _)) | exact Split.cons 7 rfl (Split.cons 7 rfl (Split.nil _)) | exact Split.cons 0 rfl (Split.cons 1 rfl (Split.nil _)) | exact Split.cons 0 rfl (Split.cons 2 rfl (Split.nil _)) | exact Split.cons 0 rfl (Split.cons 3 rfl (Split.nil _)) | exact Split.cons 0 rfl (Split.cons 4 rfl (Split.nil _)) | exact Split.cons 0 rfl (Split.cons 5 rfl (Split.nil _)) | exact Split.cons 0 rfl (Split.cons 6 rfl (Split.nil _)) | exact Split.cons 1 rfl (Split.cons 0 rfl (Split.nil _)) | exact Split.cons 1 rfl (Split.cons 2 rfl (Split.nil _)) | exact Split.cons 1 rfl (Split.cons 3 rfl (Split.nil _)) | exact Split.cons 1 rfl (Split.cons 4 rfl (Split.nil _)) | exact Split.cons 1 rfl (Split.cons 5 rfl (Split.nil _)) | exact Split.cons 1 rfl (Split.cons 6 rfl (Split.nil _)) | exact Split.cons 2 rfl (Split.cons 0 rfl (Split.nil _)) | exact Split.cons 2 rfl (Split.cons 1 rfl (Split.nil _)) | exact Split.cons 2 rfl (Split.cons 3 rfl (Split.nil _)) | exact Split.cons 2 rfl (Split.cons 4 rfl (Split.nil _)) | exact Split.cons 2 rfl (Split.cons 5 rfl (Split.nil _)) | exact Split.cons 2 rfl (Split.cons 6 rfl (Split.nil _)) | exact Split.cons 3 rfl (Split.cons 0 rfl (Split.nil _)) | exact Split.cons 3 rfl (Split.cons 1 rfl (Split.nil _)) | exact Split.cons 3 rfl (Split.cons 2 rfl (Split.nil _)) | exact Split.cons 3 rfl (Split.cons 4 rfl (Split.nil _)) | exact Split.cons 3 rfl (Split.cons 5 rfl (Split.nil _)) | exact Split.cons 3 rfl (Split.cons 6 rfl (Split.nil _)) | exact Split.cons 4 rfl (Split.cons 0 rfl (Split.nil _)) | exact Split.cons 4 rfl (Split.cons 1 rfl (Split.nil _)) | exact Split.cons 4 rfl (Split.cons 2 rfl (Split.nil _)) | exact Split.cons 4 rfl (Split.cons 3 rfl (Split.nil _)) | exact Split.cons 4 rfl (Split.cons 5 rfl (Split.nil _)) | exact Split.cons 4 rfl (Split.cons 6 rfl (Split.nil _)) | exact Split.cons 5 rfl (Split.cons 0 rfl (Split.nil _)) | exact Split.cons 5 rfl (Split.cons 1 rfl (Split.nil _)) | exact Split.cons 5 rfl (Split.cons 2 rfl (Split.nil _)) | exact Split.cons 5 rfl (Split.cons 3 rfl (Split.nil _)) | exact Split.cons 5 rfl (Split.cons 4 rfl (Split.nil _)) | exact Split.cons 5 rfl (Split.cons 6 rfl (Split.nil _)) | exact Split.cons 6 rfl (Split.cons 0 rfl (Split.nil _)) | exact Split.cons 6 rfl (Split.cons 1 rfl (Split.nil _)) | exact Split.cons 6 rfl (Split.cons 2 rfl (Split.nil _)) | exact Split.cons 6 rfl (Split.cons 3 rfl (Split.nil _)) | exact Split.cons 6 rfl (Split.cons 4 rfl (Split.nil _)) | exact Split.cons 6 rfl (Split.cons 5 rfl (Split.nil _)) | exact Split.cons 7 rfl (Split.cons 0 rfl (Split.nil _)) | exact Split.cons 7 rfl (Split.cons 1 rfl (Split.nil _)) | exact Split.cons 7 rfl (Split.cons 2 rfl (Split.nil _)) | exact Split.cons 7 rfl (Split.cons 3 rfl (Split.nil _)) | exact Split.cons 7 rfl (Split.cons 4 rfl (Split.nil _)) | exact Split.cons 7 rfl (Split.cons 5 rfl (Split.nil _)) | exact Split.cons 7 rfl (Split.cons 6 rfl (Split.nil _))) (put_at _ _ _ _ n 8 _ _ rfl rfl (by omega) (by omega))) rfl ?_
  rintro _ H' ⟨_, ⟨p', c', rfl, rfl⟩, hH⟩
  simp only [List.cons_append, List.nil_append, List.eraseIdx_cons_zero, List.eraseIdx_cons_succ, List.set_cons_zero, List.set_cons_succ] at hH
  subst hH
  refine ops_nil ?_
  repeat (first | refine InBlock_normal ?_ | refine NoGoto_normal ?_ | refine Jump_normal ?_)
  refine done_normal (res0 rfl) ?_
  exact ⟨p', c', rfl, rfl⟩
theorem u64_at (pw : Nat) (p : Option Addr) (c : Nat) (l : List UInt8) (n : Nat) (nn : Int) (hnn : nn = (n : Int)) (hl : l.length + 8 ≤ 140737488355328) :
    Tri Try.prog 46 [.pointer (some ⟨pw, 0, none⟩), .int .u64 nn] (wr pw p c l) (fun r H' => ∃ p' c', r = .tuple #[] ∧ H' = wr pw p' c' (l ++ be n 8)) := by
  subst hnn; exact u64_spec pw p c l n hl


theorem wr_eq {pw k c : Nat} {p : Option Addr} {l : List UInt8} {xs : List Value} (hk : k = l.length) (hx : xs = cel l) :
    [own pw (.cells [Value.slice p k c].toArray 131 (0, 0)), row 5 1 (.slice p k c) k xs] = wr pw p c l := by subst hk; subst hx; rfl
theorem be_mod (n : Nat) : be (n % 4294967296) 4 = be n 4 := by
  have h : ∀ k, k < 4 → UInt8.ofNat (n % 4294967296 / 256 ^ k) = UInt8.ofNat (n / 256 ^ k) := by
    intro k hk
    apply UInt8.toNat_inj.1; rw [UInt8.toNat_ofNat', UInt8.toNat_ofNat']
    match k, hk with
    | 0, _ => simp <;> omega
    | 1, _ => simp <;> omega
    | 2, _ => simp <;> omega
    | 3, _ => simp <;> omega
  simp only [be]
  rw [h 3 (by omega), h 2 (by omega), h 1 (by omega), h 0 (by omega)]
theorem text_run (pw : Nat) (p : Option Addr) (c : Nat) (l : List UInt8) (s : ByteArray) (hs : l.length + 4 + s.size ≤ 140737488355328) :
    Tri Try.prog 79 [.pointer (some ⟨pw, 0, none⟩), .string s] (wr pw p c l) (fun r H' => ∃ p' c', r = .tuple #[] ∧ H' = wr pw p' c' (l ++ be s.size 4 ++ s.data.toList)) := by
  refine tri_of_wp Try.func79 rfl Try.ntmps79 (by simp) ?_
  refine wp_seq' ?_
  refine wp_region' ?_
  refine ops_ro' rfl (ro_move rfl) rfl ?_
  refine ops_ro' rfl (ro_move rfl) rfl ?_
  refine ops_ro' rfl (ro_strLen (t' := 0) Try.underlying9 rfl) rfl ?_
  refine ops_ro' rfl (ro_conv Try.underlying3 Try.underlying37 rfl (wrap_u32_mod _)) rfl ?_
  refine ops_eff' rfl (eff_call Try.call78 rfl rfl (by first | exact Split.cons 0 rfl (Split.cons 0 rfl (Split.nil _)) | exact Split.cons 1 rfl (Split.cons 1 rfl (Split.nil _)) | exact Split.cons 2 rfl (Split.cons 2 rfl (Split.nil _)) | exact Split.cons 3 rfl (Split.cons 3 rfl (Split.nil _)) | exact Split.cons 4 rfl (Split.cons 4 rfl (Split.nil _)) | exact Split.cons 5 rfl (Split.cons 5 rfl (Split.nil _)) | exact Split.cons 6 rfl (Split.cons 6 rfl (Split.nil _)) | exact Split.cons 7 rfl (Split.cons 7 rfl (Split.nil _)) | exact Split.cons 0 rfl (Split.cons 1 rfl (Split.nil _)) | exact Split.cons 0 rfl (Split.cons 2 rfl (Split.nil _)) | exact Split.cons 0 rfl (Split.cons 3 rfl (Split.nil _)) | exact Split.cons 0 rfl (Split.cons 4 rfl (Split.nil _)) | exact Split.cons 0 rfl (Split.cons 5 rfl (Split.nil _)) | exact Split.cons 0 rfl (Split.cons 6 rfl (Split.nil _)) | exact Split.cons 1 rfl (Split.cons 0 rfl (Split.nil _)) | exact Split.cons 1 rfl (Split.cons 2 rfl (Split.nil _)) | exact Split.cons 1 rfl (Split.cons 3 rfl (Split.nil _)) | exact Split.cons 1 rfl (Split.cons 4 rfl (Split.nil _)) | exact Split.cons 1 rfl (Split.cons 5 rfl (Split.nil _)) | exact Split.cons 1 rfl (Split.cons 6 rfl (Split.nil _)) | exact Split.cons 2 rfl (Split.cons 0 rfl (Split.nil _)) | exact Split.cons 2 rfl (Split.cons 1 rfl (Split.nil _)) | exact Split.cons 2 rfl (Split.cons 3 rfl (Split.nil _)) | exact Split.cons 2 rfl (Split.cons 4 rfl (Split.nil _)) | exact Split.cons 2 rfl (Split.cons 5 rfl (Split.nil _)) | exact Split.cons 2 rfl (Split.cons 6 rfl (Split.nil _)) | exact Split.cons 3 rfl (Split.cons 0 rfl (Split.nil _)) | exact Split.cons 3 rfl (Split.cons 1 rfl (Split.nil _)) | exact Split.cons 3 rfl (Split.cons 2 rfl (Split.nil _)) | exact Split.cons 3 rfl (Split.cons 4 rfl (Split.nil _)) | exact Split.cons 3 rfl (Split.cons 5 rfl (Split.nil _)) | exact Split.cons 3 rfl (Split.cons 6 rfl (Split.nil _)) | exact Split.cons 4 rfl (Split.cons 0 rfl (Split.nil _)) | exact Split.cons 4 rfl (Split.cons 1 rfl (Split.nil _)) | exact Split.cons 4 rfl (Split.cons 2 rfl (Split.nil _)) | exact Split.cons 4 rfl (Split.cons 3 rfl (Split.nil _)) | exact Split.cons 4 rfl (Split.cons 5 rfl (Split.nil _)) | exact Split.cons 4 rfl (Split.cons 6 rfl (Split.nil _)) | exact Split.cons 5 rfl (Split.cons 0 rfl (Split.nil _)) | exact Split.cons 5 rfl (Split.cons 1 rfl (Split.nil _)) | exact Split.cons 5 rfl (Split.cons 2 rfl (Split.nil _)) | exact Split.cons 5 rfl (Split.cons 3 rfl (Split.nil _)) | exact Split.cons 5 rfl (Split.cons 4 rfl (Split.nil _)) | exact Split.cons 5 rfl (Split.cons 6 rfl (Split.nil _)) | exact Split.cons 6 rfl (Split.cons 0 rfl (Split.nil _)) | exact Split.cons 6 rfl (Split.cons 1 rfl (Split.nil _)) | exact Split.cons 6 rfl (Split.cons 2 rfl (Split.nil _)) | exact Split.cons 6 rfl (Split.cons 3 rfl (Split.nil _)) | exact Split.cons 6 rfl (Split.cons 4 rfl (Split.nil _)) | exact Split.cons 6 rfl (Split.cons 5 rfl (Split.nil _)) | exact Split.cons 7 rfl (Split.cons 0 rfl (Split.nil _)) | exact Split.cons 7 rfl (Split.cons 1 rfl (Split.nil _)) | exact Split.cons 7 rfl (Split.cons 2 rfl (Split.nil _)) | exact Split.cons 7 rfl (Split.cons 3 rfl (Split.nil _)) | exact Split.cons 7 rfl (Split.cons 4 rfl (Split.nil _)) | exact Split.cons 7 rfl (Split.cons 5 rfl (Split.nil _)) | exact Split.cons 7 rfl (Split.cons 6 rfl (Split.nil _))) (u32_at pw p c l (s.size % 4294967296) _ (by omega) (by omega) (by omega))) rfl ?_
  rintro _ H' ⟨_, ⟨p', c', rfl, rfl⟩, hH⟩
  simp only [List.cons_append, List.nil_append, List.eraseIdx_cons_zero, List.eraseIdx_cons_succ, List.set_cons_zero, List.set_cons_succ] at hH
  subst hH
  refine ops_nil ?_
  repeat (first | refine InBlock_normal ?_ | refine NoGoto_normal ?_ | refine Jump_normal ?_)
  refine Then_normal ?_
  refine wp_region' ?_
  refine ops_ro' rfl (ro_move rfl) rfl ?_
  refine ops_ro' rfl (ro_move rfl) rfl ?_
  refine ops_ro' rfl (ro_nilCheck rfl) rfl ?_
  refine ops_ro' rfl (ro_fieldAddr fa131_0 rfl) rfl ?_
  refine ops_ro' rfl (ro_load sc30 rfl (by first | exact Rd.pick 0 rfl (by first | exact Rd.own rfl | exact Rd.row rfl) | exact Rd.pick 1 rfl (by first | exact Rd.own rfl | exact Rd.row rfl) | exact Rd.pick 2 rfl (by first | exact Rd.own rfl | exact Rd.row rfl) | exact Rd.pick 3 rfl (by first | exact Rd.own rfl | exact Rd.row rfl) | exact Rd.pick 4 rfl (by first | exact Rd.own rfl | exact Rd.row rfl) | exact Rd.pick 5 rfl (by first | exact Rd.own rfl | exact Rd.row rfl) | exact Rd.pick 6 rfl (by first | exact Rd.own rfl | exact Rd.row rfl) | exact Rd.pick 7 rfl (by first | exact Rd.own rfl | exact Rd.row rfl))) rfl ?_
  refine ops_ro' rfl (ro_move rfl) rfl ?_
  refine ops_eff' rfl (eff_append 1 sl30 (.inr Try.underlying9) rfl rfl rfl (Src.str _ s) (by simp [be_length]; omega) (by simp [maxLen, be_length]; omega)) rfl ?_
  rintro _ _ ⟨_, ⟨p2, c2, rfl, -, rfl⟩, rfl⟩
  refine ops_ro' rfl (ro_nilCheck rfl) rfl ?_
  refine ops_ro' rfl (ro_fieldAddr fa131_0 rfl) rfl ?_
  refine ops_eff0 rfl ((by first | exact eff_store 0 sc30 rfl rfl rfl rfl (Nat.le_of_ble_eq_true rfl) (warm_zero _) | exact eff_store 1 sc30 rfl rfl rfl rfl (Nat.le_of_ble_eq_true rfl) (warm_zero _) | exact eff_store 2 sc30 rfl rfl rfl rfl (Nat.le_of_ble_eq_true rfl) (warm_zero _) | exact eff_store 3 sc30 rfl rfl rfl rfl (Nat.le_of_ble_eq_true rfl) (warm_zero _) | exact eff_store 4 sc30 rfl rfl rfl rfl (Nat.le_of_ble_eq_true rfl) (warm_zero _) | exact eff_store 5 sc30 rfl rfl rfl rfl (Nat.le_of_ble_eq_true rfl) (warm_zero _) | exact eff_store 6 sc30 rfl rfl rfl rfl (Nat.le_of_ble_eq_true rfl) (warm_zero _) | exact eff_store 7 sc30 rfl rfl rfl rfl (Nat.le_of_ble_eq_true rfl) (warm_zero _))) rfl ?_
  rintro _ _ rfl
  refine ops_nil ?_
  repeat (first | refine InBlock_normal ?_ | refine NoGoto_normal ?_ | refine Jump_normal ?_)
  refine done_normal (res0 rfl) ?_
  exact ⟨p2, c2, rfl, wr_eq (by rw [be_mod]; simp only [List.length_append, be_length, Array.length_toList]; rfl) (by rw [be_mod]; simp only [cel_append, bts_cel])⟩
theorem text_spec (pw : Nat) (p : Option Addr) (c : Nat) (l : List UInt8) (s : ByteArray) (hs : s.size ≤ 35184372088832) (hl : l.length ≤ 35184372088832) :
    Tri Try.prog 79 [.pointer (some ⟨pw, 0, none⟩), .string s] (wr pw p c l) (fun r H' => ∃ p' c', r = .tuple #[] ∧ H' = wr pw p' c' (l ++ be s.size 4 ++ s.data.toList)) := text_run pw p c l s (by omega)


theorem done_spec (pw : Nat) (p : Option Addr) (c : Nat) (l : List UInt8) (hl : l.length ≤ 140737488355328) :
    Tri Try.prog 48 [.pointer (some ⟨pw, 0, none⟩)] (wr pw p c l) (fun r H' => ∃ p' c', r = .slice p' l.length c' ∧ Alike p p' ∧ H' = row 5 1 (.slice p' l.length c') l.length (cel l) :: wr pw p c l) := by
  refine tri_of_wp Try.func48 rfl Try.ntmps48 (by simp) ?_
  refine wp_seq' ?_
  refine wp_region' ?_
  refine ops_ro' rfl (ro_assign rfl) rfl ?_
  refine ops_nil ?_
  repeat (first | refine InBlock_normal ?_ | refine NoGoto_normal ?_ | refine Jump_normal ?_)
  refine Then_normal ?_
  refine wp_seq' ?_
  refine wp_region' ?_
  refine ops_ro' rfl (ro_move rfl) rfl ?_
  refine ops_ro' rfl (ro_nilCheck rfl) rfl ?_
  refine ops_ro' rfl (ro_fieldAddr fa131_0 rfl) rfl ?_
  refine ops_ro' rfl (ro_load sc30 rfl (by first | exact Rd.pick 0 rfl (by first | exact Rd.own rfl | exact Rd.row rfl) | exact Rd.pick 1 rfl (by first | exact Rd.own rfl | exact Rd.row rfl) | exact Rd.pick 2 rfl (by first | exact Rd.own rfl | exact Rd.row rfl) | exact Rd.pick 3 rfl (by first | exact Rd.own rfl | exact Rd.row rfl) | exact Rd.pick 4 rfl (by first | exact Rd.own rfl | exact Rd.row rfl) | exact Rd.pick 5 rfl (by first | exact Rd.own rfl | exact Rd.row rfl) | exact Rd.pick 6 rfl (by first | exact Rd.own rfl | exact Rd.row rfl) | exact Rd.pick 7 rfl (by first | exact Rd.own rfl | exact Rd.row rfl))) rfl ?_
  refine ops_eff' rfl (eff_call Try.call40 rfl rfl (by first | exact Split.cons 0 rfl (Split.nil _) | exact Split.cons 1 rfl (Split.nil _) | exact Split.cons 2 rfl (Split.nil _) | exact Split.cons 3 rfl (Split.nil _) | exact Split.cons 4 rfl (Split.nil _) | exact Split.cons 5 rfl (Split.nil _) | exact Split.cons 6 rfl (Split.nil _) | exact Split.cons 7 rfl (Split.nil _)) (clone_spec _ _ _ _ _ Vw.row (cel_length _) (cel_one _) (by omega))) rfl ?_
  rintro _ H' ⟨_, ⟨p', c', rfl, hp, rfl⟩, hH⟩
  simp only [List.cons_append, List.nil_append, List.eraseIdx_cons_zero, List.eraseIdx_cons_succ, List.set_cons_zero, List.set_cons_succ] at hH
  subst hH
  refine ops_heap (fun w F s => St_front 2 rfl s) ?_
  refine ops_heap (fun w F s => St_front 1 rfl s) ?_
  refine ops_ro' rfl (ro_assign rfl) rfl ?_
  refine ops_nil ?_
  repeat (first | refine InBlock_normal ?_ | refine NoGoto_normal ?_ | refine Jump_normal ?_)
  refine Then_normal ?_
  refine wp_ret' ?_
  repeat (first | refine Then_ret ?_ | refine InBlock_ret ?_ | refine NoGoto_ret ?_ | refine Jump_ret ?_)
  refine done_ret (res1 rfl rfl) ?_
  exact ⟨p', c', rfl, hp, rfl⟩

end Go.Proofs.Ytbbmhppkhcodfaa
