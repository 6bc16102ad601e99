/-
  The walk of AttrCuts.
-/
import Derived.Test.YtbiohhfibkolgaaLaw14
import Derived.Test.YtbiohhfibkolgaaWithin
import Derived.Test.YtbiohhfibkolgaaPCuts
namespace Go.Proofs.Ytbiohhfibkolgaa
open Go.Sx
set_option linter.unusedVariables false
set_option linter.unusedSimpArgs false
set_option maxRecDepth 100000

def sz (i : Nat) : Nat := if i = 2 then 4 else 8
theorem sz_le (i : Nat) : sz i ≤ 8 := by unfold sz; split <;> omega
theorem szc {i : Nat} (h : i < 4) : ([Value.int .i64 8, Value.int .i64 8, Value.int .i64 4, Value.int .i64 8] : List Value)[i]? = some (.int .i64 (sz i : Nat)) := by
  match i, h with
  | 0, _ => rfl
  | 1, _ => rfl
  | 2, _ => rfl
  | 3, _ => rfl
def nb (f : Nat) : Nat → Nat
  | 0 => 4
  | i + 1 => nb f i + (if f >>> i &&& 1 = 1 then sz i else 0)
theorem nb_on {f i : Nat} (h : f >>> i &&& 1 = 1) : nb f (i + 1) = nb f i + sz i := by rw [nb, if_pos h]
theorem nb_off {f i : Nat} (h : ¬ f >>> i &&& 1 = 1) : nb f (i + 1) = nb f i := by rw [nb, if_neg h]; rfl
theorem nb_le (f : Nat) : ∀ i, i ≤ 4 → nb f i ≤ 4 + 8 * i
  | 0, _ => by simp [nb]
  | i + 1, h => by
    have := nb_le f i (by omega)
    have := sz_le i
    rw [nb]; split <;> omega
theorem nb_need (f : Nat) (h : f < 16) : nb f 4 = At.need f := by
  have : ∀ f, f < 16 → nb f 4 = At.need f := by decide
  exact this f h
theorem shr_nat (a i : Nat) (h : i ≤ 32) : ((a : Nat) : Int).fdiv (2 ^ (min ((i : Nat) : Int).toNat (IntKind.bits .u32))) = ((a >>> i : Nat) : Int) := by
  have e : min ((i : Nat) : Int).toNat (IntKind.bits .u32) = i := by
    rw [Int.toNat_natCast]; exact Nat.min_eq_left h
  rw [e, Nat.shiftRight_eq_div_pow, Int.fdiv_eq_ediv_of_nonneg _ (by exact Int.le_of_lt (Int.pow_pos (by omega)))]
  simp
theorem cel_take (l : List UInt8) (k : Nat) : cel (l.take k) = ((cel l).drop (0 * 1)).take ((k - 0) * 1) := by simp [cel]
theorem newReader_at (V : HProp) (p : Option Addr) (n c : Nat) (l : List UInt8) (hn : n = l.length) (hV : Vw V (.slice p n c) n (cel l)) (hl : l.length ≤ 140737488355328) :
    Tri Try.prog 34 [.slice p n c] [V] (fun v H' => ∃ pr p' c', v = .pointer (some ⟨pr, 0, none⟩) ∧ H' = rd pr p' c' (R.new l) ++ [V]) := by
  subst hn; exact newReader_spec V p c l hV hl
theorem end_at (pr : Nat) (p : Option Addr) (c : Nat) (r : R) (e k : Int) (h : r.fin = (e, k)) (hl : r.b.length ≤ 140737488355328) (hp : r.pos ≤ r.b.length) :
    Tri Try.prog 45 [.pointer (some ⟨pr, 0, none⟩)] (rd pr p c r) (fun v H' => v = .tuple #[.int .i64 e, .int .i64 k] ∧ H' = rd pr p c r) := by
  have := end_spec pr p c r hl hp
  rw [h] at this; exact this
theorem aget_cut (pr : Nat) (p : Option Addr) (c : Nat) (x : At) (hx : x.Ok) (hf : x.f ≤ 15) (k : Nat) (hk : k < x.enc.length) :
    Tri Try.prog 36 [.pointer (some ⟨pr, 0, none⟩)] (rd pr p c (R.new (x.enc.take k))) (fun v H' => v = At.zero.v ∧ ∃ r : R, r.fin = (10, (k : Int)) ∧ r.b.length ≤ 140737488355328 ∧ r.pos ≤ r.b.length ∧ H' = rd pr p c r) := by
  have hle := x.enc_le
  have h := aget_spec pr p c (R.new (x.enc.take k)) (by simp [R.new]; omega) (by simp [R.new])
  obtain ⟨h1, h2, h3, h4⟩ := cut_attrs x hx hf k hk
  refine tri_post h ?_
  rintro v H ⟨rfl, rfl⟩
  rw [h1]
  exact ⟨rfl, _, h2, by rw [h3, List.length_take]; omega, by rw [h3]; exact h4, rfl⟩
theorem attrCuts_run (V : HProp) (x : At) (hx : x.Ok) (cut : Int) :
    Tri Try.prog 10 [x.v, .int .i64 cut] [V] (fun v H' => v = .bool true ∧ V ∈ H') := by
  refine tri_of_wp Try.func10 rfl Try.ntmps10 (by simp) ?_
  refine wp_seq' ?_
  refine wp_region' ?_
  refine ops_eff' rfl (eff_box rfl) rfl ?_
  rintro _ _ ⟨b2, rfl, rfl⟩
  refine ops_ro' rfl (ro_assign rfl) rfl ?_
  refine ops_nil ?_
  repeat (first | refine InBlock_normal ?_ | refine NoGoto_normal ?_ | refine Jump_normal ?_)
  refine Then_normal ?_
  refine wp_seq' ?_
  refine wp_region' ?_
  refine ops_ro' rfl (ro_fieldAddr fa30_0 rfl) rfl ?_
  refine ops_ro' rfl (ro_load sc27 rfl (by first | exact Rd.pick 0 rfl (by first | exact Rd.own rfl | exact Rd.row rfl) | exact Rd.pick 1 rfl (by first | exact Rd.own rfl | exact Rd.row rfl) | exact Rd.pick 2 rfl (by first | exact Rd.own rfl | exact Rd.row rfl) | exact Rd.pick 3 rfl (by first | exact Rd.own rfl | exact Rd.row rfl) | exact Rd.pick 4 rfl (by first | exact Rd.own rfl | exact Rd.row rfl) | exact Rd.pick 5 rfl (by first | exact Rd.own rfl | exact Rd.row rfl) | exact Rd.pick 6 rfl (by first | exact Rd.own rfl | exact Rd.row rfl) | exact Rd.pick 7 rfl (by first | exact Rd.own rfl | exact Rd.row rfl))) rfl ?_
  refine ops_ro' rfl (ro_rem rfl rfl (by omega) (show ((x.f : Nat) : Int).tmod 16 = ((x.f % 16 : Nat) : Int) from by rw [Int.tmod_eq_emod_of_nonneg (by omega)]; omega)) rfl ?_
  refine ops_ro' rfl (ro_fieldAddr fa30_0 rfl) rfl ?_
  refine ops_eff0 rfl ((by first | exact eff_store 0 sc27 rfl rfl rfl rfl (Nat.le_of_ble_eq_true rfl) (warm_zero _) | exact eff_store 1 sc27 rfl rfl rfl rfl (Nat.le_of_ble_eq_true rfl) (warm_zero _) | exact eff_store 2 sc27 rfl rfl rfl rfl (Nat.le_of_ble_eq_true rfl) (warm_zero _) | exact eff_store 3 sc27 rfl rfl rfl rfl (Nat.le_of_ble_eq_true rfl) (warm_zero _) | exact eff_store 4 sc27 rfl rfl rfl rfl (Nat.le_of_ble_eq_true rfl) (warm_zero _) | exact eff_store 5 sc27 rfl rfl rfl rfl (Nat.le_of_ble_eq_true rfl) (warm_zero _) | exact eff_store 6 sc27 rfl rfl rfl rfl (Nat.le_of_ble_eq_true rfl) (warm_zero _) | exact eff_store 7 sc27 rfl rfl rfl rfl (Nat.le_of_ble_eq_true rfl) (warm_zero _))) rfl ?_
  rintro _ _ rfl
  refine ops_nil ?_
  show Then _ _ .normal _ [own b2 (.cells (At.cs { x with f := x.f % 16 }).toArray 30 (0, 0)), V]
  generalize hy : ({ x with f := x.f % 16 } : At) = y
  have hyo : y.Ok := by rw [← hy]; exact ⟨by simp only; omega, hx.s, hx.u, hx.g, hx.m, hx.a, hx.t⟩
  have hyf : y.f ≤ 15 := by rw [← hy]; simp only; omega
  have hle := y.enc_le
  have hned := enc_need y
  have hnb := nb_need y.f (by omega)
  have hneed : 4 ≤ At.need y.f := by unfold At.need; omega
  repeat (first | refine InBlock_normal ?_ | refine NoGoto_normal ?_ | refine Jump_normal ?_)
  refine Then_normal ?_
  refine wp_seq' ?_
  refine wp_region' ?_
  refine ops_ro' rfl (ro_loadA ag30 rfl (by first | exact RdN.of_pick 0 rfl rdn_all | exact RdN.of_pick 1 rfl rdn_all | exact RdN.of_pick 2 rfl rdn_all | exact RdN.of_pick 3 rfl rdn_all | exact RdN.of_pick 4 rfl rdn_all | exact RdN.of_pick 5 rfl rdn_all | exact RdN.of_pick 6 rfl rdn_all | exact RdN.of_pick 7 rfl rdn_all) rfl) rfl ?_
  refine ops_eff' rfl (eff_call Try.call35 rfl rfl (Split.nil _) (aput14_spec y hyo)) rfl ?_
  rintro _ H' ⟨_, ⟨A, ⟨p, c, rfl, rfl⟩, rfl⟩, hH⟩
  simp only [List.cons_append, List.nil_append, List.eraseIdx_cons_zero, List.eraseIdx_cons_succ, List.set_cons_zero, List.set_cons_succ] at hH
  subst hH
  refine ops_ro' rfl (ro_assign rfl) rfl ?_
  refine ops_nil ?_
  repeat (first | refine InBlock_normal ?_ | refine NoGoto_normal ?_ | refine Jump_normal ?_)
  refine Then_normal ?_
  refine wp_seq' ?_
  refine wp_region' ?_
  refine ops_ro' rfl (ro_assign rfl) rfl ?_
  refine ops_nil ?_
  repeat (first | refine InBlock_normal ?_ | refine NoGoto_normal ?_ | refine Jump_normal ?_)
  refine Then_normal ?_
  refine wp_seq' ?_
  refine wp_seq' ?_
  refine wp_region' ?_
  refine ops_eff' rfl (eff_buildSlice rfl (sbld (cs := [_, _, _, _]) [(.int .i64 0), (.int .i64 0), (.int .i64 0), (.int .i64 0)] sl22 (by decide) (by kernel_rfl) rfl)) rfl ?_
  rintro _ _ ⟨b19, rfl, rfl⟩
  refine ops_ro' rfl (ro_sliceLen Try.underlying22 rfl) rfl ?_
  refine ops_ro' rfl (ro_move rfl) rfl ?_
  refine ops_nil ?_
  repeat (first | refine InBlock_normal ?_ | refine NoGoto_normal ?_ | refine Jump_normal ?_)
  refine Then_normal ?_
  refine wp_block' ?_
  refine wp_loop' (fun m Γ H => ∃ i, i + m = 4 ∧ Has Γ [(1, .int .i64 cut), (2, .pointer (some ⟨b2, 0, none⟩)), (5, .slice p y.enc.length c), (6, .int .i64 (nb y.f i : Nat)), (19, .slice (some ⟨b19, 0, none⟩) 4 4), (20, .int .i64 4), (21, .int .i64 (i : Nat))] ∧ H = [own b19 (.cells [Value.int .i64 8, Value.int .i64 8, Value.int .i64 4, Value.int .i64 8].toArray 3 (0, 0)), row 5 1 (.slice p y.enc.length c) y.enc.length (cel y.enc), own b2 (.cells y.cs.toArray 30 (0, 0)), V]) (m := 4) ⟨0, by omega, (Has.cons rfl (Has.cons rfl (Has.cons rfl (Has.cons rfl (Has.cons rfl (Has.cons rfl (Has.cons rfl (Has.nil _)))))))), rfl⟩ ?_
  rintro m Γ H ⟨i, hi, hΓ, rfl⟩
  refine wp_has hΓ ?_
  refine wp_seq' ?_
  refine wp_region' ?_
  refine ops_ro' rfl (ro_lss rfl rfl rfl) rfl ?_
  refine ops_nil ?_
  repeat (first | refine InBlock_normal ?_ | refine NoGoto_normal ?_ | refine Jump_normal ?_)
  refine Then_normal ?_
  refine wp_seq' ?_
  refine wp_cond' rfl (fun hc0 => ?_) (fun hc0 => ?_)
  · try replace hc0 := of_decide_eq_true hc0
    have hi4 : i < 4 := by omega
    have hnbi := nb_le y.f i (by omega)
    have hszi := sz_le i
    have hsh : y.f >>> i < 4294967296 := by rw [Nat.shiftRight_eq_div_pow]; exact Nat.lt_of_le_of_lt (Nat.div_le_self _ _) (by omega)
    refine wp_skip' ?_
    repeat (first | refine InBlock_normal ?_ | refine NoGoto_normal ?_ | refine Jump_normal ?_)
    refine Then_normal ?_
    refine wp_seq' ?_
    refine wp_block' ?_
    refine wp_seq' ?_
    refine wp_region' ?_
    refine ops_ro' rfl (ro_move rfl) rfl ?_
    refine ops_ro' rfl (ro_indexSlice sl22 rfl rfl rfl (by omega)) rfl ?_
    refine ops_ro' rfl (ro_load sc3 rfl (Rd.pick 0 rfl (Rd.own (by first | exact szc hi4 | (simp only [Nat.zero_add, Nat.mul_one]; exact szc hi4))))) rfl ?_
    refine ops_ro' rfl (ro_assign rfl) rfl ?_
    refine ops_ro' rfl (ro_assign rfl) rfl ?_
    refine ops_nil ?_
    repeat (first | refine InBlock_normal ?_ | refine NoGoto_normal ?_ | refine Jump_normal ?_)
    refine Then_normal ?_
    refine wp_seq' ?_
    refine wp_region' ?_
    refine ops_ro' rfl (ro_fieldAddr fa30_0 rfl) rfl ?_
    refine ops_ro' rfl (ro_load sc27 rfl (by first | exact Rd.pick 0 rfl (by first | exact Rd.own rfl | exact Rd.row rfl) | exact Rd.pick 1 rfl (by first | exact Rd.own rfl | exact Rd.row rfl) | exact Rd.pick 2 rfl (by first | exact Rd.own rfl | exact Rd.row rfl) | exact Rd.pick 3 rfl (by first | exact Rd.own rfl | exact Rd.row rfl) | exact Rd.pick 4 rfl (by first | exact Rd.own rfl | exact Rd.row rfl) | exact Rd.pick 5 rfl (by first | exact Rd.own rfl | exact Rd.row rfl) | exact Rd.pick 6 rfl (by first | exact Rd.own rfl | exact Rd.row rfl) | exact Rd.pick 7 rfl (by first | exact Rd.own rfl | exact Rd.row rfl))) rfl ?_
    refine ops_ro' rfl (ro_move rfl) rfl ?_
    refine ops_ro' rfl (ro_conv Try.underlying3 Try.underlying78 rfl (by first | exact wrap_u64_in (by omega) (by omega) | exact wrap_u64_mod _)) rfl ?_
    refine ops_ro' rfl (ro_shr rfl rfl (by omega) (shr_nat y.f i (by omega))) rfl ?_
    refine ops_ro' rfl (ro_and rfl rfl (and32 hsh (c := 1) (by decide) rfl)) rfl ?_
    refine ops_ro' rfl (ro_eql rfl rfl rfl) rfl ?_
    refine ops_nil ?_
    repeat (first | refine InBlock_normal ?_ | refine NoGoto_normal ?_ | refine Jump_normal ?_)
    refine Then_normal ?_
    refine wp_cond' rfl (fun hc1 => ?_) (fun hc1 => ?_)
    · try replace hc1 := of_decide_eq_true hc1
      refine wp_region' ?_
      refine ops_ro' rfl (ro_move rfl) rfl ?_
      refine ops_ro' rfl (ro_move rfl) rfl ?_
      refine ops_ro' rfl (ro_add rfl rfl (show IntKind.i64.wrap ((nb y.f i : Nat) + (sz i : Nat) : Int) = ((nb y.f (i + 1) : Nat) : Int) from by rw [wrap_i64_in (by omega) (by omega), nb_on (by omega)]; omega)) rfl ?_
      refine ops_ro' rfl (ro_assign rfl) rfl ?_
      refine ops_nil ?_
      repeat (first | refine InBlock_normal ?_ | refine NoGoto_normal ?_ | refine Jump_normal ?_)
      refine Then_normal ?_
      refine wp_region' ?_
      refine ops_ro' rfl (ro_add rfl rfl (show IntKind.i64.wrap ((i : Int) + 1) = ((i + 1 : Nat) : Int) from by rw [wrap_i64_in (by omega) (by omega)]; omega)) rfl ?_
      refine ops_ro' rfl (ro_move rfl) rfl ?_
      refine ops_nil ?_
      repeat (first | refine InBlock_normal ?_ | refine NoGoto_normal ?_ | refine Jump_normal ?_)
      refine Then_normal ?_
      exact ⟨m - 1, by omega, i + 1, by omega, (Has.cons rfl (Has.cons rfl (Has.cons rfl (Has.cons rfl (Has.cons rfl (Has.cons rfl (Has.cons rfl (Has.nil _)))))))), rfl⟩
    · try replace hc1 := of_decide_eq_false hc1
      refine wp_skip' ?_
      repeat (first | refine InBlock_normal ?_ | refine NoGoto_normal ?_ | refine Jump_normal ?_)
      refine Then_normal ?_
      refine wp_region' ?_
      refine ops_ro' rfl (ro_add rfl rfl (show IntKind.i64.wrap ((i : Int) + 1) = ((i + 1 : Nat) : Int) from by rw [wrap_i64_in (by omega) (by omega)]; omega)) rfl ?_
      refine ops_ro' rfl (ro_move rfl) rfl ?_
      refine ops_nil ?_
      repeat (first | refine InBlock_normal ?_ | refine NoGoto_normal ?_ | refine Jump_normal ?_)
      refine Then_normal ?_
      exact ⟨m - 1, by omega, i + 1, by omega, (Has.cons rfl (Has.cons rfl (Has.cons rfl (Has.cons (by rw [nb_off (by omega)]; rfl) (Has.cons rfl (Has.cons rfl (Has.cons rfl (Has.nil _)))))))), rfl⟩
  · try replace hc0 := of_decide_eq_false hc0
    obtain rfl : i = 4 := by omega
    have hn4 : ((nb y.f 4 : Nat) : Int) = (y.enc.length : Int) := by omega
    have hge : 4 ≤ nb y.f 4 := by omega
    obtain ⟨k, hk⟩ : ∃ k : Nat, (0 : Int) + cut % (((nb y.f 4 : Nat) : Int) - 1 - 0 + 1) = (k : Int) := ⟨(cut % (((nb y.f 4 : Nat) : Int) - 1 - 0 + 1)).toNat, by have := Int.emod_nonneg cut (show ((nb y.f 4 : Nat) : Int) - 1 - 0 + 1 ≠ 0 by omega); omega⟩
    have hkl : k < y.enc.length := by have := Int.emod_lt_of_pos cut (show (0 : Int) < ((nb y.f 4 : Nat) : Int) - 1 - 0 + 1 by omega); omega
    refine wp_exit' ?_
    repeat (first | refine Then_exit ?_ | refine NoGoto_exit ?_ | refine Jump_exit ?_ | refine InBlock_here ?_ | refine InBlock_far rfl ?_)
    repeat (first | refine InBlock_normal ?_ | refine NoGoto_normal ?_ | refine Jump_normal ?_)
    refine Then_normal ?_
    refine wp_seq' ?_
    refine wp_seq' ?_
    refine wp_region' ?_
    refine ops_ro' rfl (ro_move rfl) rfl ?_
    refine ops_ro' rfl (ro_sliceLen Try.underlying25 rfl) rfl ?_
    refine ops_ro' rfl (ro_move rfl) rfl ?_
    refine ops_ro' rfl (ro_neq rfl rfl (decide_eq_false (by omega))) rfl ?_
    refine ops_nil ?_
    repeat (first | refine InBlock_normal ?_ | refine NoGoto_normal ?_ | refine Jump_normal ?_)
    refine Then_normal ?_
    refine wp_condF rfl ?_
    refine wp_skip' ?_
    repeat (first | refine InBlock_normal ?_ | refine NoGoto_normal ?_ | refine Jump_normal ?_)
    refine Then_normal ?_
    refine wp_seq' ?_
    refine wp_know (fun w F s => row_shape 1 rfl s) ?_
    rintro ⟨-, ⟨hs, -⟩ | ⟨bb, cc, hs, hcc, -⟩⟩
    · exfalso; injection hs with _ hs _; omega
    obtain ⟨rfl, rfl⟩ : p = some ⟨bb, 0, none⟩ ∧ c = cc := by injection hs with h1 _ h2; exact ⟨h1, h2⟩
    refine wp_region' ?_
    refine ops_ro' rfl (ro_move rfl) rfl ?_
    refine ops_ro' rfl (ro_move rfl) rfl ?_
    refine ops_ro' rfl (ro_move rfl) rfl ?_
    refine ops_ro' rfl (ro_sub rfl rfl (by first | exact wrap_i64_in (by omega) (by omega) | rfl)) rfl ?_
    refine ops_eff' rfl (eff_call Try.call44 rfl rfl (Split.nil _) (within_spec cut 0 _ (by omega) (by omega) (by omega))) rfl ?_
    rintro _ H' ⟨_, ⟨rfl, rfl⟩, hH⟩
    simp only [List.cons_append, List.nil_append, List.eraseIdx_cons_zero, List.eraseIdx_cons_succ, List.set_cons_zero, List.set_cons_succ] at hH
    subst hH
    rw [hk]
    refine ops_ro' rfl (ro_slice (l := 0) (h := k) sl25 rfl rfl (bnd_of rfl rfl) (by omega) (by omega)) rfl ?_
    refine ops_eff' rfl (eff_call Try.call34 rfl rfl (Split.cons 1 rfl (Split.nil _)) (newReader_at _ _ _ _ (y.enc.take k) (by rw [List.length_take]; omega) (by rw [cel_take]; exact Vw.resl RdN.row (by omega) (by omega) hcc (by simp [cel_length])) (by rw [List.length_take]; omega))) rfl ?_
    rintro _ H' ⟨_, ⟨pr, p2, c2, rfl, rfl⟩, hH⟩
    simp only [List.cons_append, List.nil_append, List.eraseIdx_cons_zero, List.eraseIdx_cons_succ, List.set_cons_zero, List.set_cons_succ] at hH
    subst hH
    refine ops_ro' rfl (ro_assign rfl) rfl ?_
    refine ops_nil ?_
    repeat (first | refine InBlock_normal ?_ | refine NoGoto_normal ?_ | refine Jump_normal ?_)
    refine Then_normal ?_
    refine wp_seq' ?_
    refine wp_seq' ?_
    refine wp_region' ?_
    refine ops_ro' rfl (ro_move rfl) rfl ?_
    refine ops_ro' rfl (ro_ptrEqlNil Try.underlying66 rfl rfl rfl) rfl ?_
    refine ops_nil ?_
    repeat (first | refine InBlock_normal ?_ | refine NoGoto_normal ?_ | refine Jump_normal ?_)
    refine Then_normal ?_
    refine wp_condF rfl ?_
    refine wp_skip' ?_
    repeat (first | refine InBlock_normal ?_ | refine NoGoto_normal ?_ | refine Jump_normal ?_)
    refine Then_normal ?_
    refine wp_seq' ?_
    refine wp_region' ?_
    refine ops_ro' rfl (ro_move rfl) rfl ?_
    refine ops_eff' rfl (eff_call Try.call36 rfl rfl (by first | exact Split.cons 0 rfl (Split.cons 0 rfl (Split.nil _)) | exact Split.cons 1 rfl (Split.cons 1 rfl (Split.nil _)) | exact Split.cons 2 rfl (Split.cons 2 rfl (Split.nil _)) | exact Split.cons 3 rfl (Split.cons 3 rfl (Split.nil _)) | exact Split.cons 4 rfl (Split.cons 4 rfl (Split.nil _)) | exact Split.cons 5 rfl (Split.cons 5 rfl (Split.nil _)) | exact Split.cons 6 rfl (Split.cons 6 rfl (Split.nil _)) | exact Split.cons 7 rfl (Split.cons 7 rfl (Split.nil _)) | exact Split.cons 0 rfl (Split.cons 1 rfl (Split.nil _)) | exact Split.cons 0 rfl (Split.cons 2 rfl (Split.nil _)) | exact Split.cons 0 rfl (Split.cons 3 rfl (Split.nil _)) | exact Split.cons 0 rfl (Split.cons 4 rfl (Split.nil _)) | exact Split.cons 0 rfl (Split.cons 5 rfl (Split.nil _)) | exact Split.cons 0 rfl (Split.cons 6 rfl (Split.nil _)) | exact Split.cons 1 rfl (Split.cons 0 rfl (Split.nil _)) | exact Split.cons 1 rfl (Split.cons 2 rfl (Split.nil _)) | exact Split.cons 1 rfl (Split.cons 3 rfl (Split.nil _)) | exact Split.cons 1 rfl (Split.cons 4 rfl (Split.nil _)) | exact Split.cons 1 rfl (Split.cons 5 rfl (Split.nil _)) | exact Split.cons 1 rfl (Split.cons 6 rfl (Split.nil _)) | exact Split.cons 2 rfl (Split.cons 0 rfl (Split.nil _)) | exact Split.cons 2 rfl (Split.cons 1 rfl (Split.nil _)) | exact Split.cons 2 rfl (Split.cons 3 rfl (Split.nil _)) | exact Split.cons 2 rfl (Split.cons 4 rfl (Split.nil _)) | exact Split.cons 2 rfl (Split.cons 5 rfl (Split.nil _)) | exact Split.cons 2 rfl (Split.cons 6 rfl (Split.nil _)) | exact Split.cons 3 rfl (Split.cons 0 rfl (Split.nil _)) | exact Split.cons 3 rfl (Split.cons 1 rfl (Split.nil _)) | exact Split.cons 3 rfl (Split.cons 2 rfl (Split.nil _)) | exact Split.cons 3 rfl (Split.cons 4 rfl (Split.nil _)) | exact Split.cons 3 rfl (Split.cons 5 rfl (Split.nil _)) | exact Split.cons 3 rfl (Split.cons 6 rfl (Split.nil _)) | exact Split.cons 4 rfl (Split.cons 0 rfl (Split.nil _)) | exact Split.cons 4 rfl (Split.cons 1 rfl (Split.nil _)) | exact Split.cons 4 rfl (Split.cons 2 rfl (Split.nil _)) | exact Split.cons 4 rfl (Split.cons 3 rfl (Split.nil _)) | exact Split.cons 4 rfl (Split.cons 5 rfl (Split.nil _)) | exact Split.cons 4 rfl (Split.cons 6 rfl (Split.nil _)) | exact Split.cons 5 rfl (Split.cons 0 rfl (Split.nil _)) | exact Split.cons 5 rfl (Split.cons 1 rfl (Split.nil _)) | exact Split.cons 5 rfl (Split.cons 2 rfl (Split.nil _)) | exact Split.cons 5 rfl (Split.cons 3 rfl (Split.nil _)) | exact Split.cons 5 rfl (Split.cons 4 rfl (Split.nil _)) | exact Split.cons 5 rfl (Split.cons 6 rfl (Split.nil _)) | exact Split.cons 6 rfl (Split.cons 0 rfl (Split.nil _)) | exact Split.cons 6 rfl (Split.cons 1 rfl (Split.nil _)) | exact Split.cons 6 rfl (Split.cons 2 rfl (Split.nil _)) | exact Split.cons 6 rfl (Split.cons 3 rfl (Split.nil _)) | exact Split.cons 6 rfl (Split.cons 4 rfl (Split.nil _)) | exact Split.cons 6 rfl (Split.cons 5 rfl (Split.nil _)) | exact Split.cons 7 rfl (Split.cons 0 rfl (Split.nil _)) | exact Split.cons 7 rfl (Split.cons 1 rfl (Split.nil _)) | exact Split.cons 7 rfl (Split.cons 2 rfl (Split.nil _)) | exact Split.cons 7 rfl (Split.cons 3 rfl (Split.nil _)) | exact Split.cons 7 rfl (Split.cons 4 rfl (Split.nil _)) | exact Split.cons 7 rfl (Split.cons 5 rfl (Split.nil _)) | exact Split.cons 7 rfl (Split.cons 6 rfl (Split.nil _))) (aget_cut _ _ _ y hyo hyf k hkl)) rfl ?_
    rintro _ H' ⟨_, ⟨rfl, r, hfin, hrl, hrp, rfl⟩, hH⟩
    simp only [List.cons_append, List.nil_append, List.eraseIdx_cons_zero, List.eraseIdx_cons_succ, List.set_cons_zero, List.set_cons_succ] at hH
    subst hH
    refine ops_eff' rfl (eff_alloc z30) rfl ?_
    rintro _ _ ⟨b10, rfl, rfl⟩
    refine ops_eff0 rfl ((by first | exact eff_storeA 0 ag30 rfl rfl rfl rfl rfl (Nat.le_of_ble_eq_true rfl) (warm_zero _) | exact eff_storeA 1 ag30 rfl rfl rfl rfl rfl (Nat.le_of_ble_eq_true rfl) (warm_zero _) | exact eff_storeA 2 ag30 rfl rfl rfl rfl rfl (Nat.le_of_ble_eq_true rfl) (warm_zero _) | exact eff_storeA 3 ag30 rfl rfl rfl rfl rfl (Nat.le_of_ble_eq_true rfl) (warm_zero _) | exact eff_storeA 4 ag30 rfl rfl rfl rfl rfl (Nat.le_of_ble_eq_true rfl) (warm_zero _) | exact eff_storeA 5 ag30 rfl rfl rfl rfl rfl (Nat.le_of_ble_eq_true rfl) (warm_zero _) | exact eff_storeA 6 ag30 rfl rfl rfl rfl rfl (Nat.le_of_ble_eq_true rfl) (warm_zero _) | exact eff_storeA 7 ag30 rfl rfl rfl rfl rfl (Nat.le_of_ble_eq_true rfl) (warm_zero _))) rfl ?_
    rintro _ _ rfl
    refine ops_nil ?_
    repeat (first | refine InBlock_normal ?_ | refine NoGoto_normal ?_ | refine Jump_normal ?_)
    refine Then_normal ?_
    refine wp_seq' ?_
    refine wp_region' ?_
    refine ops_ro' rfl (ro_move rfl) rfl ?_
    refine ops_eff' rfl (eff_call Try.call45 rfl rfl (by first | exact Split.cons 0 rfl (Split.cons 0 rfl (Split.nil _)) | exact Split.cons 1 rfl (Split.cons 1 rfl (Split.nil _)) | exact Split.cons 2 rfl (Split.cons 2 rfl (Split.nil _)) | exact Split.cons 3 rfl (Split.cons 3 rfl (Split.nil _)) | exact Split.cons 4 rfl (Split.cons 4 rfl (Split.nil _)) | exact Split.cons 5 rfl (Split.cons 5 rfl (Split.nil _)) | exact Split.cons 6 rfl (Split.cons 6 rfl (Split.nil _)) | exact Split.cons 7 rfl (Split.cons 7 rfl (Split.nil _)) | exact Split.cons 0 rfl (Split.cons 1 rfl (Split.nil _)) | exact Split.cons 0 rfl (Split.cons 2 rfl (Split.nil _)) | exact Split.cons 0 rfl (Split.cons 3 rfl (Split.nil _)) | exact Split.cons 0 rfl (Split.cons 4 rfl (Split.nil _)) | exact Split.cons 0 rfl (Split.cons 5 rfl (Split.nil _)) | exact Split.cons 0 rfl (Split.cons 6 rfl (Split.nil _)) | exact Split.cons 1 rfl (Split.cons 0 rfl (Split.nil _)) | exact Split.cons 1 rfl (Split.cons 2 rfl (Split.nil _)) | exact Split.cons 1 rfl (Split.cons 3 rfl (Split.nil _)) | exact Split.cons 1 rfl (Split.cons 4 rfl (Split.nil _)) | exact Split.cons 1 rfl (Split.cons 5 rfl (Split.nil _)) | exact Split.cons 1 rfl (Split.cons 6 rfl (Split.nil _)) | exact Split.cons 2 rfl (Split.cons 0 rfl (Split.nil _)) | exact Split.cons 2 rfl (Split.cons 1 rfl (Split.nil _)) | exact Split.cons 2 rfl (Split.cons 3 rfl (Split.nil _)) | exact Split.cons 2 rfl (Split.cons 4 rfl (Split.nil _)) | exact Split.cons 2 rfl (Split.cons 5 rfl (Split.nil _)) | exact Split.cons 2 rfl (Split.cons 6 rfl (Split.nil _)) | exact Split.cons 3 rfl (Split.cons 0 rfl (Split.nil _)) | exact Split.cons 3 rfl (Split.cons 1 rfl (Split.nil _)) | exact Split.cons 3 rfl (Split.cons 2 rfl (Split.nil _)) | exact Split.cons 3 rfl (Split.cons 4 rfl (Split.nil _)) | exact Split.cons 3 rfl (Split.cons 5 rfl (Split.nil _)) | exact Split.cons 3 rfl (Split.cons 6 rfl (Split.nil _)) | exact Split.cons 4 rfl (Split.cons 0 rfl (Split.nil _)) | exact Split.cons 4 rfl (Split.cons 1 rfl (Split.nil _)) | exact Split.cons 4 rfl (Split.cons 2 rfl (Split.nil _)) | exact Split.cons 4 rfl (Split.cons 3 rfl (Split.nil _)) | exact Split.cons 4 rfl (Split.cons 5 rfl (Split.nil _)) | exact Split.cons 4 rfl (Split.cons 6 rfl (Split.nil _)) | exact Split.cons 5 rfl (Split.cons 0 rfl (Split.nil _)) | exact Split.cons 5 rfl (Split.cons 1 rfl (Split.nil _)) | exact Split.cons 5 rfl (Split.cons 2 rfl (Split.nil _)) | exact Split.cons 5 rfl (Split.cons 3 rfl (Split.nil _)) | exact Split.cons 5 rfl (Split.cons 4 rfl (Split.nil _)) | exact Split.cons 5 rfl (Split.cons 6 rfl (Split.nil _)) | exact Split.cons 6 rfl (Split.cons 0 rfl (Split.nil _)) | exact Split.cons 6 rfl (Split.cons 1 rfl (Split.nil _)) | exact Split.cons 6 rfl (Split.cons 2 rfl (Split.nil _)) | exact Split.cons 6 rfl (Split.cons 3 rfl (Split.nil _)) | exact Split.cons 6 rfl (Split.cons 4 rfl (Split.nil _)) | exact Split.cons 6 rfl (Split.cons 5 rfl (Split.nil _)) | exact Split.cons 7 rfl (Split.cons 0 rfl (Split.nil _)) | exact Split.cons 7 rfl (Split.cons 1 rfl (Split.nil _)) | exact Split.cons 7 rfl (Split.cons 2 rfl (Split.nil _)) | exact Split.cons 7 rfl (Split.cons 3 rfl (Split.nil _)) | exact Split.cons 7 rfl (Split.cons 4 rfl (Split.nil _)) | exact Split.cons 7 rfl (Split.cons 5 rfl (Split.nil _)) | exact Split.cons 7 rfl (Split.cons 6 rfl (Split.nil _))) (end_at _ _ _ r _ _ hfin hrl hrp)) rfl ?_
    rintro _ H' ⟨_, ⟨rfl, rfl⟩, hH⟩
    simp only [List.cons_append, List.nil_append, List.eraseIdx_cons_zero, List.eraseIdx_cons_succ, List.set_cons_zero, List.set_cons_succ] at hH
    subst hH
    refine ops_ro' rfl (ro_move rfl) rfl ?_
    refine ops_ro' rfl (ro_extract rfl rfl) rfl ?_
    refine ops_ro' rfl (ro_extract rfl rfl) rfl ?_
    refine ops_ro' rfl (ro_assign rfl) rfl ?_
    refine ops_ro' rfl (ro_assign rfl) rfl ?_
    refine ops_nil ?_
    repeat (first | refine InBlock_normal ?_ | refine NoGoto_normal ?_ | refine Jump_normal ?_)
    refine Then_normal ?_
    refine wp_seq' ?_
    refine wp_region' ?_
    refine ops_ro' rfl (ro_loadA ag30 rfl (by first | exact RdN.of_pick 0 rfl rdn_all | exact RdN.of_pick 1 rfl rdn_all | exact RdN.of_pick 2 rfl rdn_all | exact RdN.of_pick 3 rfl rdn_all | exact RdN.of_pick 4 rfl rdn_all | exact RdN.of_pick 5 rfl rdn_all | exact RdN.of_pick 6 rfl rdn_all | exact RdN.of_pick 7 rfl rdn_all) rfl) rfl ?_
    refine ops_ro' rfl (ro_build rfl (show Bld Try.prog 30 [] At.zero.v from bld_struct (cs := At.zero.cs) st30 rfl)) rfl ?_
    refine ops_ro' rfl (ro_attrEq rfl rfl (c := true) (by simp)) rfl ?_
    refine ops_ro' rfl (ro_move rfl) rfl ?_
    refine ops_ro' rfl (ro_move rfl) rfl ?_
    refine ops_ro' rfl (ro_eql rfl rfl (decide_eq_true rfl)) rfl ?_
    refine ops_ro' rfl (ro_pick rfl rfl) rfl ?_
    refine ops_ro' rfl (ro_move rfl) rfl ?_
    refine ops_ro' rfl (ro_move rfl) rfl ?_
    refine ops_ro' rfl (ro_move rfl) rfl ?_
    refine ops_ro' rfl (ro_move rfl) rfl ?_
    refine ops_ro' rfl (ro_sub rfl rfl (by first | exact wrap_i64_in (by omega) (by omega) | rfl)) rfl ?_
    refine ops_eff' rfl (eff_call Try.call44 rfl rfl (Split.nil _) (within_spec cut 0 _ (by omega) (by omega) (by omega))) rfl ?_
    rintro _ H' ⟨_, ⟨rfl, rfl⟩, hH⟩
    simp only [List.cons_append, List.nil_append, List.eraseIdx_cons_zero, List.eraseIdx_cons_succ, List.set_cons_zero, List.set_cons_succ] at hH
    subst hH
    rw [hk]
    refine ops_ro' rfl (ro_eql rfl rfl (decide_eq_true rfl)) rfl ?_
    refine ops_ro' rfl (ro_pick rfl rfl) rfl ?_
    refine ops_ro' rfl (ro_move rfl) rfl ?_
    refine ops_eff' rfl (eff_call Try.call33 rfl rfl (Split.nil _) (known_spec)) rfl ?_
    rintro _ H' ⟨_, ⟨rfl, rfl⟩, hH⟩
    simp only [List.cons_append, List.nil_append, List.eraseIdx_cons_zero, List.eraseIdx_cons_succ, List.set_cons_zero, List.set_cons_succ] at hH
    subst hH
    refine ops_ro' rfl (ro_pick rfl rfl) rfl ?_
    refine ops_ro' rfl (ro_assign rfl) rfl ?_
    refine ops_nil ?_
    repeat (first | refine InBlock_normal ?_ | refine NoGoto_normal ?_ | refine Jump_normal ?_)
    refine Then_normal ?_
    refine wp_ret' ?_
    repeat (first | refine Then_ret ?_ | refine InBlock_ret ?_ | refine NoGoto_ret ?_ | refine Jump_ret ?_)
    refine done_ret (res1 rfl rfl) ?_
    exact ⟨rfl, by simp⟩

end Go.Proofs.Ytbiohhfibkolgaa
