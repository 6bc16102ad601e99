/-
  What the reader of package strongroomref1 does.
-/
import Derived.Test.YtigaolglnnjnmaaRef1
namespace Go.Proofs.Ytigaolglnnjnmaa
open Go.Sx
set_option linter.unusedVariables false
set_option linter.unusedSimpArgs false
set_option maxRecDepth 100000

abbrev rqb (pr : Nat) (sv : Value) (r : R) (b : Bool) : HProp := own pr (.cells [sv, .int .i64 r.pos, .bool b, .int .i64 r.why, .int .i64 r.place].toArray 134 (0, 0))
/-- the reference's reader -/
def rq (pr : Nat) (sv : Value) (r : R) : HProp := rqb pr sv r (decide (r.why ≠ 0))
theorem rq_no {pr : Nat} {sv : Value} {r : R} (h : r.why = 0) : rq pr sv r = rqb pr sv r false := by unfold rq; rw [decide_eq_false (by simpa using h)]
theorem rq_yes {pr : Nat} {sv : Value} {r : R} (h : ¬ r.why = 0) : rq pr sv r = rqb pr sv r true := by unfold rq; rw [decide_eq_true h]
theorem rrefuse_no (pr : Nat) (sv : Value) (r : R) (w k : Int) : Tri Try.prog 110 [.pointer (some ⟨pr, 0, none⟩), .int .i64 w, .int .i64 k] [rqb pr sv r false] (fun v H' => v = .tuple #[] ∧ H' = [rqb pr sv { r with why := w, place := k } true]) := by
  refine tri_of_wp Try.func110 rfl Try.ntmps110 (by simp) ?_
  refine wp_seq' ?_
  refine wp_region' ?_
  refine ops_ro' rfl (ro_move rfl) rfl ?_
  refine ops_ro' rfl (ro_nilCheck rfl) rfl ?_
  refine ops_ro' rfl (ro_fieldAddr fa134_2 rfl) rfl ?_
  refine ops_ro' rfl (ro_load sc4 rfl (by first | exact Rd.pick 0 rfl (by first | exact Rd.own rfl | exact Rd.row rfl) | exact Rd.pick 1 rfl (by first | exact Rd.own rfl | exact Rd.row rfl) | exact Rd.pick 2 rfl (by first | exact Rd.own rfl | exact Rd.row rfl) | exact Rd.pick 3 rfl (by first | exact Rd.own rfl | exact Rd.row rfl) | exact Rd.pick 4 rfl (by first | exact Rd.own rfl | exact Rd.row rfl) | exact Rd.pick 5 rfl (by first | exact Rd.own rfl | exact Rd.row rfl) | exact Rd.pick 6 rfl (by first | exact Rd.own rfl | exact Rd.row rfl) | exact Rd.pick 7 rfl (by first | exact Rd.own rfl | exact Rd.row rfl))) rfl ?_
  refine ops_ro' rfl (ro_not rfl (c := true) rfl) rfl ?_
  refine ops_nil ?_
  repeat (first | refine InBlock_normal ?_ | refine NoGoto_normal ?_ | refine Jump_normal ?_)
  refine Then_normal ?_
  refine wp_condT rfl ?_
  refine wp_seq' ?_
  refine wp_region' ?_
  refine ops_ro' rfl (ro_move rfl) rfl ?_
  refine ops_ro' rfl (ro_nilCheck rfl) rfl ?_
  refine ops_ro' rfl (ro_fieldAddr fa134_2 rfl) rfl ?_
  refine ops_eff0 rfl ((by first | exact eff_store 0 sc4 rfl rfl rfl rfl (Nat.le_of_ble_eq_true rfl) (warm_zero _) | exact eff_store 1 sc4 rfl rfl rfl rfl (Nat.le_of_ble_eq_true rfl) (warm_zero _) | exact eff_store 2 sc4 rfl rfl rfl rfl (Nat.le_of_ble_eq_true rfl) (warm_zero _) | exact eff_store 3 sc4 rfl rfl rfl rfl (Nat.le_of_ble_eq_true rfl) (warm_zero _) | exact eff_store 4 sc4 rfl rfl rfl rfl (Nat.le_of_ble_eq_true rfl) (warm_zero _) | exact eff_store 5 sc4 rfl rfl rfl rfl (Nat.le_of_ble_eq_true rfl) (warm_zero _) | exact eff_store 6 sc4 rfl rfl rfl rfl (Nat.le_of_ble_eq_true rfl) (warm_zero _) | exact eff_store 7 sc4 rfl rfl rfl rfl (Nat.le_of_ble_eq_true rfl) (warm_zero _))) rfl ?_
  rintro _ _ rfl
  refine ops_nil ?_
  repeat (first | refine InBlock_normal ?_ | refine NoGoto_normal ?_ | refine Jump_normal ?_)
  refine Then_normal ?_
  refine wp_seq' ?_
  refine wp_region' ?_
  refine ops_ro' rfl (ro_move rfl) rfl ?_
  refine ops_ro' rfl (ro_move rfl) rfl ?_
  refine ops_ro' rfl (ro_nilCheck rfl) rfl ?_
  refine ops_ro' rfl (ro_fieldAddr fa134_3 rfl) rfl ?_
  refine ops_eff0 rfl ((by first | exact eff_store 0 sc3 rfl rfl rfl rfl (Nat.le_of_ble_eq_true rfl) (warm_zero _) | exact eff_store 1 sc3 rfl rfl rfl rfl (Nat.le_of_ble_eq_true rfl) (warm_zero _) | exact eff_store 2 sc3 rfl rfl rfl rfl (Nat.le_of_ble_eq_true rfl) (warm_zero _) | exact eff_store 3 sc3 rfl rfl rfl rfl (Nat.le_of_ble_eq_true rfl) (warm_zero _) | exact eff_store 4 sc3 rfl rfl rfl rfl (Nat.le_of_ble_eq_true rfl) (warm_zero _) | exact eff_store 5 sc3 rfl rfl rfl rfl (Nat.le_of_ble_eq_true rfl) (warm_zero _) | exact eff_store 6 sc3 rfl rfl rfl rfl (Nat.le_of_ble_eq_true rfl) (warm_zero _) | exact eff_store 7 sc3 rfl rfl rfl rfl (Nat.le_of_ble_eq_true rfl) (warm_zero _))) rfl ?_
  rintro _ _ rfl
  refine ops_nil ?_
  repeat (first | refine InBlock_normal ?_ | refine NoGoto_normal ?_ | refine Jump_normal ?_)
  refine Then_normal ?_
  refine wp_region' ?_
  refine ops_ro' rfl (ro_move rfl) rfl ?_
  refine ops_ro' rfl (ro_move rfl) rfl ?_
  refine ops_ro' rfl (ro_nilCheck rfl) rfl ?_
  refine ops_ro' rfl (ro_fieldAddr fa134_4 rfl) rfl ?_
  refine ops_eff0 rfl ((by first | exact eff_store 0 sc3 rfl rfl rfl rfl (Nat.le_of_ble_eq_true rfl) (warm_zero _) | exact eff_store 1 sc3 rfl rfl rfl rfl (Nat.le_of_ble_eq_true rfl) (warm_zero _) | exact eff_store 2 sc3 rfl rfl rfl rfl (Nat.le_of_ble_eq_true rfl) (warm_zero _) | exact eff_store 3 sc3 rfl rfl rfl rfl (Nat.le_of_ble_eq_true rfl) (warm_zero _) | exact eff_store 4 sc3 rfl rfl rfl rfl (Nat.le_of_ble_eq_true rfl) (warm_zero _) | exact eff_store 5 sc3 rfl rfl rfl rfl (Nat.le_of_ble_eq_true rfl) (warm_zero _) | exact eff_store 6 sc3 rfl rfl rfl rfl (Nat.le_of_ble_eq_true rfl) (warm_zero _) | exact eff_store 7 sc3 rfl rfl rfl rfl (Nat.le_of_ble_eq_true rfl) (warm_zero _))) rfl ?_
  rintro _ _ rfl
  refine ops_nil ?_
  repeat (first | refine InBlock_normal ?_ | refine NoGoto_normal ?_ | refine Jump_normal ?_)
  refine done_normal (res0 rfl) ?_
  exact ⟨rfl, rfl⟩
theorem rrefuse_yes (pr : Nat) (sv : Value) (r : R) (w k : Int) : Tri Try.prog 110 [.pointer (some ⟨pr, 0, none⟩), .int .i64 w, .int .i64 k] [rqb pr sv r true] (fun v H' => v = .tuple #[] ∧ H' = [rqb pr sv r true]) := by
  refine tri_of_wp Try.func110 rfl Try.ntmps110 (by simp) ?_
  refine wp_seq' ?_
  refine wp_region' ?_
  refine ops_ro' rfl (ro_move rfl) rfl ?_
  refine ops_ro' rfl (ro_nilCheck rfl) rfl ?_
  refine ops_ro' rfl (ro_fieldAddr fa134_2 rfl) rfl ?_
  refine ops_ro' rfl (ro_load sc4 rfl (by first | exact Rd.pick 0 rfl (by first | exact Rd.own rfl | exact Rd.row rfl) | exact Rd.pick 1 rfl (by first | exact Rd.own rfl | exact Rd.row rfl) | exact Rd.pick 2 rfl (by first | exact Rd.own rfl | exact Rd.row rfl) | exact Rd.pick 3 rfl (by first | exact Rd.own rfl | exact Rd.row rfl) | exact Rd.pick 4 rfl (by first | exact Rd.own rfl | exact Rd.row rfl) | exact Rd.pick 5 rfl (by first | exact Rd.own rfl | exact Rd.row rfl) | exact Rd.pick 6 rfl (by first | exact Rd.own rfl | exact Rd.row rfl) | exact Rd.pick 7 rfl (by first | exact Rd.own rfl | exact Rd.row rfl))) rfl ?_
  refine ops_ro' rfl (ro_not rfl (c := false) rfl) rfl ?_
  refine ops_nil ?_
  repeat (first | refine InBlock_normal ?_ | refine NoGoto_normal ?_ | refine Jump_normal ?_)
  refine Then_normal ?_
  refine wp_condF rfl ?_
  refine wp_skip' ?_
  repeat (first | refine InBlock_normal ?_ | refine NoGoto_normal ?_ | refine Jump_normal ?_)
  refine done_normal (res0 rfl) ?_
  exact ⟨rfl, rfl⟩
theorem rrefuse_spec (pr : Nat) (sv : Value) (r : R) (w k : Int) (hw : w ≠ 0) : Tri Try.prog 110 [.pointer (some ⟨pr, 0, none⟩), .int .i64 w, .int .i64 k] [rq pr sv r] (fun v H' => v = .tuple #[] ∧ H' = [rq pr sv (r.refuse w k)]) := by
  by_cases h : r.why = 0
  · rw [rq_no h, R.refuse, if_pos h, rq_yes (by simpa using hw)]; exact rrefuse_no pr sv r w k
  · rw [rq_yes h, R.refuse, if_neg h, rq_yes h]; exact rrefuse_yes pr sv r w k


theorem raw_yes (pr : Nat) (p : Option Addr) (c : Nat) (r : R) (n : Int) (V : HProp) :
    Tri Try.prog 111 [.pointer (some ⟨pr, 0, none⟩), .int .i64 n] [rqb pr (.slice p r.b.length c) (r) true, V] (fun v H' => ∃ p' c', v = .slice p' 0 c' ∧ ((p' = none ∧ ([] : List UInt8) = []) ∨ ∃ b, p' = some ⟨b, 0, none⟩) ∧ H' = [row 5 1 (.slice p' 0 c') 0 [], rqb pr (.slice p r.b.length c) (r) true, V]) := by
  refine tri_of_wp Try.func111 rfl Try.ntmps111 (by simp) ?_
  refine wp_seq' ?_
  refine wp_region' ?_
  refine ops_ro' rfl (ro_assign rfl) rfl ?_
  refine ops_nil ?_
  repeat (first | refine InBlock_normal ?_ | refine NoGoto_normal ?_ | refine Jump_normal ?_)
  refine Then_normal ?_
  refine wp_seq' ?_
  refine wp_seq' ?_
  refine wp_region' ?_
  refine ops_ro' rfl (ro_move rfl) rfl ?_
  refine ops_ro' rfl (ro_nilCheck rfl) rfl ?_
  refine ops_ro' rfl (ro_fieldAddr fa134_2 rfl) rfl ?_
  refine ops_ro' rfl (ro_load sc4 rfl (by first | exact Rd.pick 0 rfl (by first | exact Rd.own rfl | exact Rd.row rfl) | exact Rd.pick 1 rfl (by first | exact Rd.own rfl | exact Rd.row rfl) | exact Rd.pick 2 rfl (by first | exact Rd.own rfl | exact Rd.row rfl) | exact Rd.pick 3 rfl (by first | exact Rd.own rfl | exact Rd.row rfl) | exact Rd.pick 4 rfl (by first | exact Rd.own rfl | exact Rd.row rfl) | exact Rd.pick 5 rfl (by first | exact Rd.own rfl | exact Rd.row rfl) | exact Rd.pick 6 rfl (by first | exact Rd.own rfl | exact Rd.row rfl) | exact Rd.pick 7 rfl (by first | exact Rd.own rfl | exact Rd.row rfl))) rfl ?_
  refine ops_ro' rfl (ro_move rfl) rfl ?_
  refine ops_skip rfl rfl ?_
  refine ops_skip rfl rfl ?_
  refine ops_ro' rfl (ro_pick rfl rfl) rfl ?_
  refine ops_nil ?_
  repeat (first | refine InBlock_normal ?_ | refine NoGoto_normal ?_ | refine Jump_normal ?_)
  refine Then_normal ?_
  refine wp_condT rfl ?_
  refine wp_seq' ?_
  refine wp_heap (fun w F s => nil_row 5 1 w F s) ?_
  refine wp_region' ?_
  refine ops_ro' rfl (ro_assign rfl) rfl ?_
  refine ops_nil ?_
  repeat (first | refine InBlock_normal ?_ | refine NoGoto_normal ?_ | refine Jump_normal ?_)
  refine Then_normal ?_
  refine wp_ret' ?_
  repeat (first | refine Then_ret ?_ | refine InBlock_ret ?_ | refine NoGoto_ret ?_ | refine Jump_ret ?_)
  refine done_ret (res1 rfl rfl) ?_
  exact ⟨none, 0, rfl, .inl ⟨rfl, rfl⟩, rfl⟩
theorem raw_none (pr : Nat) (p : Option Addr) (c : Nat) (r : R) (n : Int) (V : HProp) (h0 : n ≤ 0) :
    Tri Try.prog 111 [.pointer (some ⟨pr, 0, none⟩), .int .i64 n] [rqb pr (.slice p r.b.length c) (r) false, V] (fun v H' => ∃ p' c', v = .slice p' 0 c' ∧ ((p' = none ∧ ([] : List UInt8) = []) ∨ ∃ b, p' = some ⟨b, 0, none⟩) ∧ H' = [row 5 1 (.slice p' 0 c') 0 [], rqb pr (.slice p r.b.length c) (r) false, V]) := by
  refine tri_of_wp Try.func111 rfl Try.ntmps111 (by simp) ?_
  refine wp_seq' ?_
  refine wp_region' ?_
  refine ops_ro' rfl (ro_assign rfl) rfl ?_
  refine ops_nil ?_
  repeat (first | refine InBlock_normal ?_ | refine NoGoto_normal ?_ | refine Jump_normal ?_)
  refine Then_normal ?_
  refine wp_seq' ?_
  refine wp_seq' ?_
  refine wp_region' ?_
  refine ops_ro' rfl (ro_move rfl) rfl ?_
  refine ops_ro' rfl (ro_nilCheck rfl) rfl ?_
  refine ops_ro' rfl (ro_fieldAddr fa134_2 rfl) rfl ?_
  refine ops_ro' rfl (ro_load sc4 rfl (by first | exact Rd.pick 0 rfl (by first | exact Rd.own rfl | exact Rd.row rfl) | exact Rd.pick 1 rfl (by first | exact Rd.own rfl | exact Rd.row rfl) | exact Rd.pick 2 rfl (by first | exact Rd.own rfl | exact Rd.row rfl) | exact Rd.pick 3 rfl (by first | exact Rd.own rfl | exact Rd.row rfl) | exact Rd.pick 4 rfl (by first | exact Rd.own rfl | exact Rd.row rfl) | exact Rd.pick 5 rfl (by first | exact Rd.own rfl | exact Rd.row rfl) | exact Rd.pick 6 rfl (by first | exact Rd.own rfl | exact Rd.row rfl) | exact Rd.pick 7 rfl (by first | exact Rd.own rfl | exact Rd.row rfl))) rfl ?_
  refine ops_ro' rfl (ro_move rfl) rfl ?_
  refine ops_ro' rfl (ro_move rfl) rfl ?_
  refine ops_ro' rfl (ro_leq rfl rfl (decide_eq_true h0)) rfl ?_
  refine ops_ro' rfl (ro_pick rfl rfl) rfl ?_
  refine ops_nil ?_
  repeat (first | refine InBlock_normal ?_ | refine NoGoto_normal ?_ | refine Jump_normal ?_)
  refine Then_normal ?_
  refine wp_condT rfl ?_
  refine wp_seq' ?_
  refine wp_heap (fun w F s => nil_row 5 1 w F s) ?_
  refine wp_region' ?_
  refine ops_ro' rfl (ro_assign rfl) rfl ?_
  refine ops_nil ?_
  repeat (first | refine InBlock_normal ?_ | refine NoGoto_normal ?_ | refine Jump_normal ?_)
  refine Then_normal ?_
  refine wp_ret' ?_
  repeat (first | refine Then_ret ?_ | refine InBlock_ret ?_ | refine NoGoto_ret ?_ | refine Jump_ret ?_)
  refine done_ret (res1 rfl rfl) ?_
  exact ⟨none, 0, rfl, .inl ⟨rfl, rfl⟩, rfl⟩
theorem raw_end (pr : Nat) (p : Option Addr) (c : Nat) (r : R) (n : Int) (V : HProp) (h0 : 0 < n) (hn : (r.b.length : Int) - r.pos < n) (hl : r.b.length ≤ 140737488355328) (hp : r.pos ≤ r.b.length) :
    Tri Try.prog 111 [.pointer (some ⟨pr, 0, none⟩), .int .i64 n] [rqb pr (.slice p r.b.length c) (r) false, V] (fun v H' => ∃ p' c', v = .slice p' 0 c' ∧ ((p' = none ∧ ([] : List UInt8) = []) ∨ ∃ b, p' = some ⟨b, 0, none⟩) ∧ H' = [row 5 1 (.slice p' 0 c') 0 [], rqb pr (.slice p r.b.length c) ({ r with why := 10, place := r.b.length }) true, V]) := by
  refine tri_of_wp Try.func111 rfl Try.ntmps111 (by simp) ?_
  refine wp_seq' ?_
  refine wp_region' ?_
  refine ops_ro' rfl (ro_assign rfl) rfl ?_
  refine ops_nil ?_
  repeat (first | refine InBlock_normal ?_ | refine NoGoto_normal ?_ | refine Jump_normal ?_)
  refine Then_normal ?_
  refine wp_seq' ?_
  refine wp_seq' ?_
  refine wp_region' ?_
  refine ops_ro' rfl (ro_move rfl) rfl ?_
  refine ops_ro' rfl (ro_nilCheck rfl) rfl ?_
  refine ops_ro' rfl (ro_fieldAddr fa134_2 rfl) rfl ?_
  refine ops_ro' rfl (ro_load sc4 rfl (by first | exact Rd.pick 0 rfl (by first | exact Rd.own rfl | exact Rd.row rfl) | exact Rd.pick 1 rfl (by first | exact Rd.own rfl | exact Rd.row rfl) | exact Rd.pick 2 rfl (by first | exact Rd.own rfl | exact Rd.row rfl) | exact Rd.pick 3 rfl (by first | exact Rd.own rfl | exact Rd.row rfl) | exact Rd.pick 4 rfl (by first | exact Rd.own rfl | exact Rd.row rfl) | exact Rd.pick 5 rfl (by first | exact Rd.own rfl | exact Rd.row rfl) | exact Rd.pick 6 rfl (by first | exact Rd.own rfl | exact Rd.row rfl) | exact Rd.pick 7 rfl (by first | exact Rd.own rfl | exact Rd.row rfl))) rfl ?_
  refine ops_ro' rfl (ro_move rfl) rfl ?_
  refine ops_ro' rfl (ro_move rfl) rfl ?_
  refine ops_ro' rfl (ro_leq rfl rfl (decide_eq_false (by omega))) rfl ?_
  refine ops_ro' rfl (ro_pick rfl rfl) rfl ?_
  refine ops_nil ?_
  repeat (first | refine InBlock_normal ?_ | refine NoGoto_normal ?_ | refine Jump_normal ?_)
  refine Then_normal ?_
  refine wp_condF rfl ?_
  refine wp_skip' ?_
  repeat (first | refine InBlock_normal ?_ | refine NoGoto_normal ?_ | refine Jump_normal ?_)
  refine Then_normal ?_
  refine wp_seq' ?_
  refine wp_seq' ?_
  refine wp_draw 12 (by kernel_rfl) (Split.all _) ?_
  refine any_ro' (i := 0) (by kernel_rfl) rfl rfl (ro_move rfl) rfl (fun _ _ _ h => h) ?_
  refine any_ro' (i := 1) (by kernel_rfl) rfl rfl (ro_nilCheck rfl) rfl (fun _ _ _ h => h) ?_
  refine any_ro' (i := 2) (by kernel_rfl) rfl rfl (ro_fieldAddr fa134_0 rfl) rfl (fun _ _ _ h => h) ?_
  refine any_ro' (i := 3) (by kernel_rfl) rfl rfl (ro_load sc32 rfl (by first | exact Rd.pick 0 rfl (by first | exact Rd.own rfl | exact Rd.row rfl) | exact Rd.pick 1 rfl (by first | exact Rd.own rfl | exact Rd.row rfl) | exact Rd.pick 2 rfl (by first | exact Rd.own rfl | exact Rd.row rfl) | exact Rd.pick 3 rfl (by first | exact Rd.own rfl | exact Rd.row rfl) | exact Rd.pick 4 rfl (by first | exact Rd.own rfl | exact Rd.row rfl) | exact Rd.pick 5 rfl (by first | exact Rd.own rfl | exact Rd.row rfl) | exact Rd.pick 6 rfl (by first | exact Rd.own rfl | exact Rd.row rfl) | exact Rd.pick 7 rfl (by first | exact Rd.own rfl | exact Rd.row rfl))) rfl (fun _ _ _ h => h) ?_
  refine any_ro' (i := 4) (by kernel_rfl) rfl rfl (ro_sliceLen Try.underlying32 rfl) rfl (fun _ _ _ h => h) ?_
  refine any_ro' (i := 5) (by kernel_rfl) rfl rfl (ro_move rfl) rfl (fun _ _ _ h => h) ?_
  refine any_ro' (i := 6) (by kernel_rfl) rfl rfl (ro_nilCheck rfl) rfl (fun _ _ _ h => h) ?_
  refine any_ro' (i := 7) (by kernel_rfl) rfl rfl (ro_fieldAddr fa134_1 rfl) rfl (fun _ _ _ h => h) ?_
  refine any_ro' (i := 8) (by kernel_rfl) rfl rfl (ro_load sc3 rfl (by first | exact Rd.pick 0 rfl (by first | exact Rd.own rfl | exact Rd.row rfl) | exact Rd.pick 1 rfl (by first | exact Rd.own rfl | exact Rd.row rfl) | exact Rd.pick 2 rfl (by first | exact Rd.own rfl | exact Rd.row rfl) | exact Rd.pick 3 rfl (by first | exact Rd.own rfl | exact Rd.row rfl) | exact Rd.pick 4 rfl (by first | exact Rd.own rfl | exact Rd.row rfl) | exact Rd.pick 5 rfl (by first | exact Rd.own rfl | exact Rd.row rfl) | exact Rd.pick 6 rfl (by first | exact Rd.own rfl | exact Rd.row rfl) | exact Rd.pick 7 rfl (by first | exact Rd.own rfl | exact Rd.row rfl))) rfl (fun _ _ _ h => h) ?_
  refine any_ro' (i := 9) (by kernel_rfl) rfl rfl (ro_sub rfl rfl (by first | exact wrap_i64_in (by omega) (by omega) | rfl)) rfl (fun _ _ _ h => h) ?_
  refine any_ro' (i := 10) (by kernel_rfl) rfl rfl (ro_move rfl) rfl (fun _ _ _ h => h) ?_
  refine any_ro' (i := 11) (by kernel_rfl) rfl rfl (ro_lss rfl rfl (decide_eq_true (by omega))) rfl (fun _ _ _ h => h) ?_
  refine any_doneL (by kernel_rfl) ?_
  repeat (first | refine InBlock_normal ?_ | refine NoGoto_normal ?_ | refine Jump_normal ?_)
  refine Then_normal ?_
  refine wp_condT rfl ?_
  refine wp_seq' ?_
  refine wp_region' ?_
  refine ops_ro' rfl (ro_move rfl) rfl ?_
  refine ops_ro' rfl (ro_move rfl) rfl ?_
  refine ops_ro' rfl (ro_nilCheck rfl) rfl ?_
  refine ops_ro' rfl (ro_fieldAddr fa134_0 rfl) rfl ?_
  refine ops_ro' rfl (ro_load sc32 rfl (by first | exact Rd.pick 0 rfl (by first | exact Rd.own rfl | exact Rd.row rfl) | exact Rd.pick 1 rfl (by first | exact Rd.own rfl | exact Rd.row rfl) | exact Rd.pick 2 rfl (by first | exact Rd.own rfl | exact Rd.row rfl) | exact Rd.pick 3 rfl (by first | exact Rd.own rfl | exact Rd.row rfl) | exact Rd.pick 4 rfl (by first | exact Rd.own rfl | exact Rd.row rfl) | exact Rd.pick 5 rfl (by first | exact Rd.own rfl | exact Rd.row rfl) | exact Rd.pick 6 rfl (by first | exact Rd.own rfl | exact Rd.row rfl) | exact Rd.pick 7 rfl (by first | exact Rd.own rfl | exact Rd.row rfl))) rfl ?_
  refine ops_ro' rfl (ro_sliceLen Try.underlying32 rfl) rfl ?_
  refine ops_eff' rfl (eff_call Try.call110 rfl rfl (Split.cons 0 rfl (Split.nil _)) (rrefuse_no pr (.slice p r.b.length c) r 10 r.b.length)) rfl ?_
  rintro _ H' ⟨_, ⟨rfl, rfl⟩, hH⟩
  simp only [List.cons_append, List.nil_append, List.eraseIdx_cons_zero, List.eraseIdx_cons_succ, List.set_cons_zero, List.set_cons_succ] at hH
  subst hH
  refine ops_nil ?_
  repeat (first | refine InBlock_normal ?_ | refine NoGoto_normal ?_ | refine Jump_normal ?_)
  refine Then_normal ?_
  refine wp_seq' ?_
  refine wp_heap (fun w F s => nil_row 5 1 w F s) ?_
  refine wp_region' ?_
  refine ops_ro' rfl (ro_assign rfl) rfl ?_
  refine ops_nil ?_
  repeat (first | refine InBlock_normal ?_ | refine NoGoto_normal ?_ | refine Jump_normal ?_)
  refine Then_normal ?_
  refine wp_ret' ?_
  repeat (first | refine Then_ret ?_ | refine InBlock_ret ?_ | refine NoGoto_ret ?_ | refine Jump_ret ?_)
  refine done_ret (res1 rfl rfl) ?_
  exact ⟨none, 0, rfl, .inl ⟨rfl, rfl⟩, rfl⟩
theorem raw_go (pr pb o : Nat) (c : Nat) (r : R) (n : Nat) (V : HProp) (hR : RdN V pb o (cel r.b)) (hn : (n : Int) ≤ (r.b.length : Int) - r.pos) (h0 : 0 < n) (hl : r.b.length ≤ 140737488355328) (hp : r.pos ≤ r.b.length) (hcap : r.b.length ≤ c) :
    Tri Try.prog 111 [.pointer (some ⟨pr, 0, none⟩), .int .i64 n] [rqb pr (.slice (some ⟨pb, o, none⟩) r.b.length c) r false, V] (fun v H' => ∃ A, Out v ((r.b.drop r.pos).take n) A ∧ H' = [A, rqb pr (.slice (some ⟨pb, o, none⟩) r.b.length c) { r with pos := r.pos + n } false, V]) := by
  refine tri_of_wp Try.func111 rfl Try.ntmps111 (by simp) ?_
  refine wp_seq' ?_
  refine wp_region' ?_
  refine ops_ro' rfl (ro_assign rfl) rfl ?_
  refine ops_nil ?_
  repeat (first | refine InBlock_normal ?_ | refine NoGoto_normal ?_ | refine Jump_normal ?_)
  refine Then_normal ?_
  refine wp_seq' ?_
  refine wp_seq' ?_
  refine wp_region' ?_
  refine ops_ro' rfl (ro_move rfl) rfl ?_
  refine ops_ro' rfl (ro_nilCheck rfl) rfl ?_
  refine ops_ro' rfl (ro_fieldAddr fa134_2 rfl) rfl ?_
  refine ops_ro' rfl (ro_load sc4 rfl (by first | exact Rd.pick 0 rfl (by first | exact Rd.own rfl | exact Rd.row rfl) | exact Rd.pick 1 rfl (by first | exact Rd.own rfl | exact Rd.row rfl) | exact Rd.pick 2 rfl (by first | exact Rd.own rfl | exact Rd.row rfl) | exact Rd.pick 3 rfl (by first | exact Rd.own rfl | exact Rd.row rfl) | exact Rd.pick 4 rfl (by first | exact Rd.own rfl | exact Rd.row rfl) | exact Rd.pick 5 rfl (by first | exact Rd.own rfl | exact Rd.row rfl) | exact Rd.pick 6 rfl (by first | exact Rd.own rfl | exact Rd.row rfl) | exact Rd.pick 7 rfl (by first | exact Rd.own rfl | exact Rd.row rfl))) rfl ?_
  refine ops_ro' rfl (ro_move rfl) rfl ?_
  refine ops_ro' rfl (ro_move rfl) rfl ?_
  refine ops_ro' rfl (ro_leq rfl rfl (decide_eq_false (by omega))) rfl ?_
  refine ops_ro' rfl (ro_pick rfl rfl) rfl ?_
  refine ops_nil ?_
  repeat (first | refine InBlock_normal ?_ | refine NoGoto_normal ?_ | refine Jump_normal ?_)
  refine Then_normal ?_
  refine wp_condF rfl ?_
  refine wp_skip' ?_
  repeat (first | refine InBlock_normal ?_ | refine NoGoto_normal ?_ | refine Jump_normal ?_)
  refine Then_normal ?_
  refine wp_seq' ?_
  refine wp_seq' ?_
  refine wp_draw 12 (by kernel_rfl) (Split.all _) ?_
  refine any_ro' (i := 0) (by kernel_rfl) rfl rfl (ro_move rfl) rfl (fun _ _ _ h => h) ?_
  refine any_ro' (i := 1) (by kernel_rfl) rfl rfl (ro_nilCheck rfl) rfl (fun _ _ _ h => h) ?_
  refine any_ro' (i := 2) (by kernel_rfl) rfl rfl (ro_fieldAddr fa134_0 rfl) rfl (fun _ _ _ h => h) ?_
  refine any_ro' (i := 3) (by kernel_rfl) rfl rfl (ro_load sc32 rfl (by first | exact Rd.pick 0 rfl (by first | exact Rd.own rfl | exact Rd.row rfl) | exact Rd.pick 1 rfl (by first | exact Rd.own rfl | exact Rd.row rfl) | exact Rd.pick 2 rfl (by first | exact Rd.own rfl | exact Rd.row rfl) | exact Rd.pick 3 rfl (by first | exact Rd.own rfl | exact Rd.row rfl) | exact Rd.pick 4 rfl (by first | exact Rd.own rfl | exact Rd.row rfl) | exact Rd.pick 5 rfl (by first | exact Rd.own rfl | exact Rd.row rfl) | exact Rd.pick 6 rfl (by first | exact Rd.own rfl | exact Rd.row rfl) | exact Rd.pick 7 rfl (by first | exact Rd.own rfl | exact Rd.row rfl))) rfl (fun _ _ _ h => h) ?_
  refine any_ro' (i := 4) (by kernel_rfl) rfl rfl (ro_sliceLen Try.underlying32 rfl) rfl (fun _ _ _ h => h) ?_
  refine any_ro' (i := 5) (by kernel_rfl) rfl rfl (ro_move rfl) rfl (fun _ _ _ h => h) ?_
  refine any_ro' (i := 6) (by kernel_rfl) rfl rfl (ro_nilCheck rfl) rfl (fun _ _ _ h => h) ?_
  refine any_ro' (i := 7) (by kernel_rfl) rfl rfl (ro_fieldAddr fa134_1 rfl) rfl (fun _ _ _ h => h) ?_
  refine any_ro' (i := 8) (by kernel_rfl) rfl rfl (ro_load sc3 rfl (by first | exact Rd.pick 0 rfl (by first | exact Rd.own rfl | exact Rd.row rfl) | exact Rd.pick 1 rfl (by first | exact Rd.own rfl | exact Rd.row rfl) | exact Rd.pick 2 rfl (by first | exact Rd.own rfl | exact Rd.row rfl) | exact Rd.pick 3 rfl (by first | exact Rd.own rfl | exact Rd.row rfl) | exact Rd.pick 4 rfl (by first | exact Rd.own rfl | exact Rd.row rfl) | exact Rd.pick 5 rfl (by first | exact Rd.own rfl | exact Rd.row rfl) | exact Rd.pick 6 rfl (by first | exact Rd.own rfl | exact Rd.row rfl) | exact Rd.pick 7 rfl (by first | exact Rd.own rfl | exact Rd.row rfl))) rfl (fun _ _ _ h => h) ?_
  refine any_ro' (i := 9) (by kernel_rfl) rfl rfl (ro_sub rfl rfl (by first | exact wrap_i64_in (by omega) (by omega) | rfl)) rfl (fun _ _ _ h => h) ?_
  refine any_ro' (i := 10) (by kernel_rfl) rfl rfl (ro_move rfl) rfl (fun _ _ _ h => h) ?_
  refine any_ro' (i := 11) (by kernel_rfl) rfl rfl (ro_lss rfl rfl (decide_eq_false (by omega))) rfl (fun _ _ _ h => h) ?_
  refine any_doneL (by kernel_rfl) ?_
  repeat (first | refine InBlock_normal ?_ | refine NoGoto_normal ?_ | refine Jump_normal ?_)
  refine Then_normal ?_
  refine wp_condF rfl ?_
  refine wp_skip' ?_
  repeat (first | refine InBlock_normal ?_ | refine NoGoto_normal ?_ | refine Jump_normal ?_)
  refine Then_normal ?_
  refine wp_seq' ?_
  refine wp_draw 17 (by kernel_rfl) (Split.cons 0 rfl (Split.nil _)) ?_
  refine any_ro' (i := 1) (by kernel_rfl) rfl rfl (ro_move rfl) rfl (fun _ _ _ h => h) ?_
  refine any_ro' (i := 2) (by kernel_rfl) rfl rfl (ro_nilCheck rfl) rfl (fun _ _ _ h => h) ?_
  refine any_ro' (i := 3) (by kernel_rfl) rfl rfl (ro_fieldAddr fa134_0 rfl) rfl (fun _ _ _ h => h) ?_
  refine any_ro' (i := 4) (by kernel_rfl) rfl rfl (ro_load sc32 rfl (by first | exact Rd.pick 0 rfl (by first | exact Rd.own rfl | exact Rd.row rfl) | exact Rd.pick 1 rfl (by first | exact Rd.own rfl | exact Rd.row rfl) | exact Rd.pick 2 rfl (by first | exact Rd.own rfl | exact Rd.row rfl) | exact Rd.pick 3 rfl (by first | exact Rd.own rfl | exact Rd.row rfl) | exact Rd.pick 4 rfl (by first | exact Rd.own rfl | exact Rd.row rfl) | exact Rd.pick 5 rfl (by first | exact Rd.own rfl | exact Rd.row rfl) | exact Rd.pick 6 rfl (by first | exact Rd.own rfl | exact Rd.row rfl) | exact Rd.pick 7 rfl (by first | exact Rd.own rfl | exact Rd.row rfl))) rfl (fun _ _ _ h => h) ?_
  refine any_ro' (i := 5) (by kernel_rfl) rfl rfl (ro_move rfl) rfl (fun _ _ _ h => h) ?_
  refine any_ro' (i := 6) (by kernel_rfl) rfl rfl (ro_nilCheck rfl) rfl (fun _ _ _ h => h) ?_
  refine any_ro' (i := 7) (by kernel_rfl) rfl rfl (ro_fieldAddr fa134_1 rfl) rfl (fun _ _ _ h => h) ?_
  refine any_ro' (i := 8) (by kernel_rfl) rfl rfl (ro_load sc3 rfl (by first | exact Rd.pick 0 rfl (by first | exact Rd.own rfl | exact Rd.row rfl) | exact Rd.pick 1 rfl (by first | exact Rd.own rfl | exact Rd.row rfl) | exact Rd.pick 2 rfl (by first | exact Rd.own rfl | exact Rd.row rfl) | exact Rd.pick 3 rfl (by first | exact Rd.own rfl | exact Rd.row rfl) | exact Rd.pick 4 rfl (by first | exact Rd.own rfl | exact Rd.row rfl) | exact Rd.pick 5 rfl (by first | exact Rd.own rfl | exact Rd.row rfl) | exact Rd.pick 6 rfl (by first | exact Rd.own rfl | exact Rd.row rfl) | exact Rd.pick 7 rfl (by first | exact Rd.own rfl | exact Rd.row rfl))) rfl (fun _ _ _ h => h) ?_
  refine any_ro' (i := 9) (by kernel_rfl) rfl rfl (ro_move rfl) rfl (fun _ _ _ h => h) ?_
  refine any_ro' (i := 10) (by kernel_rfl) rfl rfl (ro_nilCheck rfl) rfl (fun _ _ _ h => h) ?_
  refine any_ro' (i := 11) (by kernel_rfl) rfl rfl (ro_fieldAddr fa134_1 rfl) rfl (fun _ _ _ h => h) ?_
  refine any_ro' (i := 12) (by kernel_rfl) rfl rfl (ro_load sc3 rfl (by first | exact Rd.pick 0 rfl (by first | exact Rd.own rfl | exact Rd.row rfl) | exact Rd.pick 1 rfl (by first | exact Rd.own rfl | exact Rd.row rfl) | exact Rd.pick 2 rfl (by first | exact Rd.own rfl | exact Rd.row rfl) | exact Rd.pick 3 rfl (by first | exact Rd.own rfl | exact Rd.row rfl) | exact Rd.pick 4 rfl (by first | exact Rd.own rfl | exact Rd.row rfl) | exact Rd.pick 5 rfl (by first | exact Rd.own rfl | exact Rd.row rfl) | exact Rd.pick 6 rfl (by first | exact Rd.own rfl | exact Rd.row rfl) | exact Rd.pick 7 rfl (by first | exact Rd.own rfl | exact Rd.row rfl))) rfl (fun _ _ _ h => h) ?_
  refine any_ro' (i := 13) (by kernel_rfl) rfl rfl (ro_move rfl) rfl (fun _ _ _ h => h) ?_
  refine any_ro' (i := 14) (by kernel_rfl) rfl rfl (ro_add rfl rfl (by first | exact wrap_i64_in (by omega) (by omega) | rfl)) rfl (fun _ _ _ h => h) ?_
  refine any_ro' (i := 15) (by kernel_rfl) rfl rfl (ro_slice (l := r.pos) (h := r.pos + n) sl32 rfl (bnd_of rfl (by omega)) (bnd_of rfl (by omega)) (by omega) (by omega)) rfl (fun _ _ _ h => h) ?_
  refine any_eff' (i := 0) (by kernel_rfl) rfl rfl (eff_buildSlice rfl (sbld (cs := []) [] sl32 (by decide) (by kernel_rfl) rfl)) rfl ?_
  rintro _ _ ⟨b33, rfl, rfl⟩
  refine any_eff' (i := 16) (by kernel_rfl) rfl rfl (eff_appendLit (src := resl pb o c 1 r.pos (r.pos + n)) (m := r.pos + n - r.pos) (news := ((cel r.b).drop (r.pos * 1)).take ((r.pos + n - r.pos) * 1)) 0 sl32 (.inl ⟨_, Try.underlying32⟩) rfl rfl rfl rfl (Src.of_vw (Vw.pick 0 rfl (Vw.resl hR (by omega) (by omega) hcap (by simp [cel]))) (by simp [cel]; omega) (fun v hv => cel_one r.b v (List.mem_of_mem_drop (List.mem_of_mem_take hv)))) (by omega) (by simp only [maxLen]; omega)) rfl ?_
  rintro _ _ ⟨b', c', rfl, rfl⟩
  refine any_unlock (m' := 18) (L' := []) (by kernel_rfl) unlock ?_
  refine any_ro' (i := 17) (by kernel_rfl) rfl rfl (ro_assign rfl) rfl (fun _ _ _ h => h) ?_
  refine any_doneH (by kernel_rfl) ?_
  repeat (first | refine InBlock_normal ?_ | refine NoGoto_normal ?_ | refine Jump_normal ?_)
  refine Then_normal ?_
  refine wp_seq' ?_
  refine wp_region' ?_
  refine ops_ro' rfl (ro_move rfl) rfl ?_
  refine ops_ro' rfl (ro_move rfl) rfl ?_
  refine ops_ro' rfl (ro_nilCheck rfl) rfl ?_
  refine ops_ro' rfl (ro_fieldAddr fa134_1 rfl) rfl ?_
  refine ops_ro' rfl (ro_load sc3 rfl (by first | exact Rd.pick 0 rfl (by first | exact Rd.own rfl | exact Rd.row rfl) | exact Rd.pick 1 rfl (by first | exact Rd.own rfl | exact Rd.row rfl) | exact Rd.pick 2 rfl (by first | exact Rd.own rfl | exact Rd.row rfl) | exact Rd.pick 3 rfl (by first | exact Rd.own rfl | exact Rd.row rfl) | exact Rd.pick 4 rfl (by first | exact Rd.own rfl | exact Rd.row rfl) | exact Rd.pick 5 rfl (by first | exact Rd.own rfl | exact Rd.row rfl) | exact Rd.pick 6 rfl (by first | exact Rd.own rfl | exact Rd.row rfl) | exact Rd.pick 7 rfl (by first | exact Rd.own rfl | exact Rd.row rfl))) rfl ?_
  refine ops_ro' rfl (ro_move rfl) rfl ?_
  refine ops_ro' rfl (ro_add rfl rfl (show IntKind.i64.wrap ((r.pos : Int) + (n : Int)) = ((r.pos + n : Nat) : Int) from by rw [wrap_i64_in (by omega) (by omega)]; omega)) rfl ?_
  refine ops_ro' rfl (ro_nilCheck rfl) rfl ?_
  refine ops_ro' rfl (ro_fieldAddr fa134_1 rfl) rfl ?_
  refine ops_eff0 rfl ((by first | exact eff_store 0 sc3 rfl rfl rfl rfl (Nat.le_of_ble_eq_true rfl) (warm_zero _) | exact eff_store 1 sc3 rfl rfl rfl rfl (Nat.le_of_ble_eq_true rfl) (warm_zero _) | exact eff_store 2 sc3 rfl rfl rfl rfl (Nat.le_of_ble_eq_true rfl) (warm_zero _) | exact eff_store 3 sc3 rfl rfl rfl rfl (Nat.le_of_ble_eq_true rfl) (warm_zero _) | exact eff_store 4 sc3 rfl rfl rfl rfl (Nat.le_of_ble_eq_true rfl) (warm_zero _) | exact eff_store 5 sc3 rfl rfl rfl rfl (Nat.le_of_ble_eq_true rfl) (warm_zero _) | exact eff_store 6 sc3 rfl rfl rfl rfl (Nat.le_of_ble_eq_true rfl) (warm_zero _) | exact eff_store 7 sc3 rfl rfl rfl rfl (Nat.le_of_ble_eq_true rfl) (warm_zero _))) rfl ?_
  rintro _ _ rfl
  refine ops_nil ?_
  repeat (first | refine InBlock_normal ?_ | refine NoGoto_normal ?_ | refine Jump_normal ?_)
  refine Then_normal ?_
  refine wp_seq' ?_
  refine wp_region' ?_
  refine ops_ro' rfl (ro_move rfl) rfl ?_
  refine ops_ro' rfl (ro_assign rfl) rfl ?_
  refine ops_nil ?_
  repeat (first | refine InBlock_normal ?_ | refine NoGoto_normal ?_ | refine Jump_normal ?_)
  refine Then_normal ?_
  refine wp_front 1 rfl ?_
  refine wp_ret' ?_
  repeat (first | refine Then_ret ?_ | refine InBlock_ret ?_ | refine NoGoto_ret ?_ | refine Jump_ret ?_)
  refine done_ret (res1 rfl rfl) ?_
  have hk : (List.take n (List.drop r.pos r.b)).length = n := by simp; omega
  have he : 0 + (r.pos + n - r.pos) = n := by omega
  refine ⟨_, ⟨some ⟨b', 0, none⟩, c', ?_, .inr ⟨b', rfl⟩, rfl⟩, ?_⟩
  · rw [hk, he]
  · rw [hk, he]; simp [cel, rqb]


theorem vw_rdn {V : HProp} {b o n c : Nat} {xs : List Value} (h : Vw V (.slice (some ⟨b, o, none⟩) n c) n xs) : RdN V b o xs := fun j u hj w R s => by
  rcases h w R s with ⟨q, _, _, h3⟩ | ⟨b', o', c', h1, h2⟩
  · subst h3; simp at hj
  · injection h1 with h1 _ _; injection h1 with h1; injection h1 with h1 h3; subst h1; subst h3
    exact h2 j u hj
theorem raw_spec (pr : Nat) (p : Option Addr) (c : Nat) (r : R) (n : Int) (V : HProp) (hV : Vw V (.slice p r.b.length c) r.b.length (cel r.b)) (hcap : r.b.length ≤ c) (hl : r.b.length ≤ 140737488355328) (hp : r.pos ≤ r.b.length) :
    Tri Try.prog 111 [.pointer (some ⟨pr, 0, none⟩), .int .i64 n] [rq pr (.slice p r.b.length c) r, V] (fun v H' => ∃ A, Out v (r.take n).2 A ∧ H' = [A, rq pr (.slice p r.b.length c) (r.take n).1, V]) := by
  by_cases h : r.why = 0
  · rw [rq_no h]
    by_cases h0 : n ≤ 0
    · refine tri_post (raw_none pr p c r n V h0) ?_
      rintro v H ⟨p', c', h1, h2, rfl⟩
      have e : r.take n = (r, []) := by rw [R.take, if_neg (by simp [h]), if_neg (by omega), if_pos h0]
      rw [e]; exact ⟨_, out_nil h1 h2 rfl, by simp only; rw [rq_no h]⟩
    · by_cases hn : (r.b.length : Int) - r.pos < n
      · refine tri_post (raw_end pr p c r n V (by omega) hn hl hp) ?_
        rintro v H ⟨p', c', h1, h2, rfl⟩
        have e : r.take n = ({ r with why := 10, place := r.b.length }, []) := by simp [R.take, R.refuse, h, hn]
        rw [e]; exact ⟨_, out_nil h1 h2 rfl, by simp only; rw [rq_yes (by simp)]⟩
      · refine tri_know (p := ∃ b o, p = some ⟨b, o, none⟩) (fun w F s => ?_) ?_
        · rcases (Vw.pick (H := [rqb pr (.slice p r.b.length c) r false, V]) 1 rfl hV) w F s with ⟨h1, h2, _⟩ | ⟨b, o, cap, h1, _⟩
          · omega
          · injection h1 with h1 _ _; exact ⟨b, o, h1⟩
        · rintro ⟨b, o, rfl⟩
          obtain ⟨k, rfl⟩ : ∃ k : Nat, n = k := ⟨n.toNat, by omega⟩
          refine tri_post (raw_go pr b o c r k V (vw_rdn hV) (by omega) (by omega) hl hp hcap) ?_
          rintro v H ⟨A, hA, rfl⟩
          have e : r.take (k : Int) = ({ r with pos := r.pos + k }, (r.b.drop r.pos).take k) := by simp only [R.take, h]; simp [hn, h0]; omega
          rw [e]; exact ⟨A, hA, by simp only; rw [rq_no (r := { r with pos := r.pos + k }) h]⟩
  · rw [rq_yes h]
    refine tri_post (raw_yes pr p c r n V) ?_
    rintro v H ⟨p', c', h1, h2, rfl⟩
    have e : r.take n = (r, []) := by simp [R.take, h]
    rw [e]; exact ⟨_, out_nil h1 h2 rfl, by simp only; rw [rq_yes h]⟩


theorem number_spec (pr : Nat) (p : Option Addr) (c : Nat) (r : R) (size : Nat) (h8 : size ≤ 8) (V : HProp) (hV : Vw V (.slice p r.b.length c) r.b.length (cel r.b)) (hcap : r.b.length ≤ c) (hl : r.b.length ≤ 140737488355328) (hp : r.pos ≤ r.b.length) :
    Tri Try.prog 109 [.pointer (some ⟨pr, 0, none⟩), .int .i64 size] [rq pr (.slice p r.b.length c) r, V] (fun v H' => v = .int .u64 (r.get size).2 ∧ H' = [rq pr (.slice p r.b.length c) (r.get size).1, V]) := by
  refine tri_of_wp Try.func109 rfl Try.ntmps109 (by simp) ?_
  refine wp_seq' ?_
  refine wp_region' ?_
  refine ops_ro' rfl (ro_assign rfl) rfl ?_
  refine ops_nil ?_
  repeat (first | refine InBlock_normal ?_ | refine NoGoto_normal ?_ | refine Jump_normal ?_)
  refine Then_normal ?_
  refine wp_seq' ?_
  refine wp_region' ?_
  refine ops_ro' rfl (ro_move rfl) rfl ?_
  refine ops_ro' rfl (ro_move rfl) rfl ?_
  refine ops_eff' rfl (eff_call Try.call111 rfl rfl (Split.cons 0 rfl (Split.cons 0 rfl (Split.nil _))) (raw_spec pr p c r size V hV hcap hl hp)) rfl ?_
  rintro _ H' ⟨_, ⟨A, ⟨p', c', rfl, hs, rfl⟩, rfl⟩, hH⟩
  simp only [List.cons_append, List.nil_append, List.eraseIdx_cons_zero, List.eraseIdx_cons_succ, List.set_cons_zero, List.set_cons_succ] at hH
  subst hH
  have ho := take_len r size
  rw [R.get]
  generalize (r.take (size : Int)).2 = out at *
  generalize (r.take (size : Int)).1 = r1 at *
  refine ops_ro' rfl (ro_assign rfl) rfl ?_
  refine ops_nil ?_
  repeat (first | refine InBlock_normal ?_ | refine NoGoto_normal ?_ | refine Jump_normal ?_)
  refine Then_normal ?_
  refine wp_seq' ?_
  refine wp_region' ?_
  refine ops_ro' rfl (ro_assign rfl) rfl ?_
  refine ops_nil ?_
  repeat (first | refine InBlock_normal ?_ | refine NoGoto_normal ?_ | refine Jump_normal ?_)
  refine Then_normal ?_
  refine wp_seq' ?_
  refine wp_seq' ?_
  refine wp_region' ?_
  refine ops_ro' rfl (ro_assign rfl) rfl ?_
  refine ops_nil ?_
  repeat (first | refine InBlock_normal ?_ | refine NoGoto_normal ?_ | refine Jump_normal ?_)
  refine Then_normal ?_
  refine wp_block' ?_
  refine wp_loop' (fun m Γ H => ∃ k, k + m = out.length ∧ Has Γ [(5, .slice p' out.length c'), (6, .int .u64 (val (out.take k) : Nat)), (7, .int .i64 k)] ∧ H = [row 5 1 (.slice p' out.length c') out.length (cel out), rq pr (.slice p r.b.length c) r1, V]) (m := out.length) ⟨0, by omega, Has.cons rfl (Has.cons rfl (Has.cons rfl (Has.nil _))), rfl⟩ ?_
  rintro m Γ H ⟨k, hk, hΓ, rfl⟩
  refine wp_has hΓ ?_
  refine wp_seq' ?_
  refine wp_seq' ?_
  refine wp_region' ?_
  refine ops_ro' rfl (ro_move rfl) rfl ?_
  refine ops_ro' rfl (ro_move rfl) rfl ?_
  refine ops_ro' rfl (ro_sliceLen Try.underlying32 rfl) rfl ?_
  refine ops_ro' rfl (ro_lss rfl rfl rfl) rfl ?_
  refine ops_nil ?_
  repeat (first | refine InBlock_normal ?_ | refine NoGoto_normal ?_ | refine Jump_normal ?_)
  refine Then_normal ?_
  refine wp_cond' rfl (fun hc0 => ?_) (fun hc0 => ?_)
  · try replace hc0 := of_decide_eq_true hc0
    obtain ⟨b, rfl⟩ : ∃ b, p' = some ⟨b, 0, none⟩ := by
      rcases hs with ⟨_, rfl⟩ | h
      · simp at hc0; omega
      · exact h
    have hk1 : k < out.length := by omega
    have hv := val_lt (out.take k)
    have hv2 : val (out.take k) < 72057594037927936 := by
      refine Nat.lt_of_lt_of_le hv (Nat.le_trans (Nat.pow_le_pow_right (by omega) (show (out.take k).length ≤ 7 by simp; omega)) (by decide))
    have hb := UInt8.toNat_lt out[k]
    refine wp_skip' ?_
    repeat (first | refine InBlock_normal ?_ | refine NoGoto_normal ?_ | refine Jump_normal ?_)
    refine Then_normal ?_
    refine wp_seq' ?_
    refine wp_block' ?_
    refine wp_region' ?_
    refine ops_ro' rfl (ro_move rfl) rfl ?_
    refine ops_ro' rfl (ro_shl rfl rfl (by omega) (shl8 hv2)) rfl ?_
    refine ops_ro' rfl (ro_move rfl) rfl ?_
    refine ops_ro' rfl (ro_move rfl) rfl ?_
    refine ops_ro' rfl (ro_indexSlice sl32 rfl rfl rfl (by omega)) rfl ?_
    refine ops_ro' rfl (ro_load sc5 rfl (Rd.pick 0 rfl (Rd.row (by simpa using cel_get hk1)))) rfl ?_
    refine ops_ro' rfl (ro_conv Try.underlying5 Try.underlying52 rfl (wrap_u64_in (by omega) (by omega))) rfl ?_
    refine ops_ro' rfl (ro_or rfl rfl (or8 hv2 hb)) rfl ?_
    refine ops_ro' rfl (ro_assign rfl) rfl ?_
    refine ops_nil ?_
    repeat (first | refine InBlock_normal ?_ | refine NoGoto_normal ?_ | refine Jump_normal ?_)
    refine Then_normal ?_
    refine wp_region' ?_
    refine ops_ro' rfl (ro_move rfl) rfl ?_
    refine ops_ro' rfl (ro_add rfl rfl (show IntKind.i64.wrap ((k : Int) + 1) = ((k + 1 : Nat) : Int) from by rw [wrap_i64_in (by omega) (by omega)]; omega)) rfl ?_
    refine ops_ro' rfl (ro_assign rfl) rfl ?_
    refine ops_nil ?_
    repeat (first | refine InBlock_normal ?_ | refine NoGoto_normal ?_ | refine Jump_normal ?_)
    refine Then_normal ?_
    refine ⟨m - 1, by omega, k + 1, by omega, Has.cons rfl (Has.cons ?_ (Has.cons rfl (Has.nil _))), rfl⟩
    rw [List.take_succ_eq_append_getElem hk1, val_snoc]; rfl
  · try replace hc0 := of_decide_eq_false hc0
    refine wp_exit' ?_
    repeat (first | refine Then_exit ?_ | refine NoGoto_exit ?_ | refine Jump_exit ?_ | refine InBlock_here ?_ | refine InBlock_far rfl ?_)
    repeat (first | refine InBlock_normal ?_ | refine NoGoto_normal ?_ | refine Jump_normal ?_)
    refine Then_normal ?_
    refine wp_seq' ?_
    refine wp_region' ?_
    refine ops_ro' rfl (ro_move rfl) rfl ?_
    refine ops_ro' rfl (ro_assign rfl) rfl ?_
    refine ops_nil ?_
    repeat (first | refine InBlock_normal ?_ | refine NoGoto_normal ?_ | refine Jump_normal ?_)
    refine Then_normal ?_
    refine wp_drop 0 ?_
    refine wp_ret' ?_
    repeat (first | refine Then_ret ?_ | refine InBlock_ret ?_ | refine NoGoto_ret ?_ | refine Jump_ret ?_)
    refine done_ret (res1 rfl rfl) ?_
    refine ⟨?_, rfl⟩
    rw [List.take_of_length_le (by omega)]
theorem q32_spec (pr : Nat) (p : Option Addr) (c : Nat) (r : R) (V : HProp) (hV : Vw V (.slice p r.b.length c) r.b.length (cel r.b)) (hcap : r.b.length ≤ c) (hl : r.b.length ≤ 140737488355328) (hp : r.pos ≤ r.b.length) :
    Tri Try.prog 99 [.pointer (some ⟨pr, 0, none⟩)] [rq pr (.slice p r.b.length c) r, V] (fun v H' => v = .int .u32 (r.get 4).2 ∧ H' = [rq pr (.slice p r.b.length c) (r.get 4).1, V]) := by
  refine tri_of_wp Try.func99 rfl Try.ntmps99 (by simp) ?_
  refine wp_seq' ?_
  refine wp_region' ?_
  refine ops_ro' rfl (ro_assign rfl) rfl ?_
  refine ops_nil ?_
  repeat (first | refine InBlock_normal ?_ | refine NoGoto_normal ?_ | refine Jump_normal ?_)
  refine Then_normal ?_
  refine wp_seq' ?_
  refine wp_region' ?_
  refine ops_ro' rfl (ro_move rfl) rfl ?_
  refine ops_eff' rfl (eff_call Try.call109 rfl rfl (Split.cons 0 rfl (Split.cons 0 rfl (Split.nil _))) (number_spec pr p c r 4 (by omega) V hV hcap hl hp)) rfl ?_
  rintro _ H' ⟨_, ⟨rfl, rfl⟩, hH⟩
  simp only [List.cons_append, List.nil_append, List.eraseIdx_cons_zero, List.eraseIdx_cons_succ, List.set_cons_zero, List.set_cons_succ] at hH
  subst hH
  refine ops_ro' rfl (ro_conv Try.underlying52 Try.underlying40 rfl (wrap_u32_in (by omega) (by have := get_lt r 4; simp at this; omega))) rfl ?_
  refine ops_ro' rfl (ro_assign rfl) rfl ?_
  refine ops_nil ?_
  repeat (first | refine InBlock_normal ?_ | refine NoGoto_normal ?_ | refine Jump_normal ?_)
  refine Then_normal ?_
  refine wp_ret' ?_
  repeat (first | refine Then_ret ?_ | refine InBlock_ret ?_ | refine NoGoto_ret ?_ | refine Jump_ret ?_)
  refine done_ret (res1 rfl rfl) ?_
  exact ⟨rfl, rfl⟩
theorem q64_spec (pr : Nat) (p : Option Addr) (c : Nat) (r : R) (V : HProp) (hV : Vw V (.slice p r.b.length c) r.b.length (cel r.b)) (hcap : r.b.length ≤ c) (hl : r.b.length ≤ 140737488355328) (hp : r.pos ≤ r.b.length) :
    Tri Try.prog 101 [.pointer (some ⟨pr, 0, none⟩)] [rq pr (.slice p r.b.length c) r, V] (fun v H' => v = .int .u64 (r.get 8).2 ∧ H' = [rq pr (.slice p r.b.length c) (r.get 8).1, V]) := by
  refine tri_of_wp Try.func101 rfl Try.ntmps101 (by simp) ?_
  refine wp_seq' ?_
  refine wp_region' ?_
  refine ops_ro' rfl (ro_assign rfl) rfl ?_
  refine ops_nil ?_
  repeat (first | refine InBlock_normal ?_ | refine NoGoto_normal ?_ | refine Jump_normal ?_)
  refine Then_normal ?_
  refine wp_seq' ?_
  refine wp_region' ?_
  refine ops_ro' rfl (ro_move rfl) rfl ?_
  refine ops_eff' rfl (eff_call Try.call109 rfl rfl (Split.cons 0 rfl (Split.cons 0 rfl (Split.nil _))) (number_spec pr p c r 8 (by omega) V hV hcap hl hp)) rfl ?_
  rintro _ H' ⟨_, ⟨rfl, rfl⟩, hH⟩
  simp only [List.cons_append, List.nil_append, List.eraseIdx_cons_zero, List.eraseIdx_cons_succ, List.set_cons_zero, List.set_cons_succ] at hH
  subst hH
  refine ops_ro' rfl (ro_assign rfl) rfl ?_
  refine ops_nil ?_
  repeat (first | refine InBlock_normal ?_ | refine NoGoto_normal ?_ | refine Jump_normal ?_)
  refine Then_normal ?_
  refine wp_ret' ?_
  repeat (first | refine Then_ret ?_ | refine InBlock_ret ?_ | refine NoGoto_ret ?_ | refine Jump_ret ?_)
  refine done_ret (res1 rfl rfl) ?_
  exact ⟨rfl, rfl⟩
theorem qfail_spec (pr : Nat) (sv : Value) (r : R) (w : Int) (hw : w ≠ 0) :
    Tri Try.prog 119 [.pointer (some ⟨pr, 0, none⟩), .int .i64 w] [rq pr sv r] (fun v H' => v = .tuple #[] ∧ H' = [rq pr sv (r.fail w)]) := by
  refine tri_of_wp Try.func119 rfl Try.ntmps119 (by simp) ?_
  refine wp_seq' ?_
  refine wp_region' ?_
  refine ops_ro' rfl (ro_move rfl) rfl ?_
  refine ops_ro' rfl (ro_neq rfl rfl (decide_eq_true hw)) rfl ?_
  refine ops_nil ?_
  repeat (first | refine InBlock_normal ?_ | refine NoGoto_normal ?_ | refine Jump_normal ?_)
  refine Then_normal ?_
  refine wp_condT rfl ?_
  unfold rq
  refine wp_region' ?_
  refine ops_ro' rfl (ro_move rfl) rfl ?_
  refine ops_ro' rfl (ro_move rfl) rfl ?_
  refine ops_ro' rfl (ro_move rfl) rfl ?_
  refine ops_ro' rfl (ro_nilCheck rfl) rfl ?_
  refine ops_ro' rfl (ro_fieldAddr fa134_1 rfl) rfl ?_
  refine ops_ro' rfl (ro_load sc3 rfl (by first | exact Rd.pick 0 rfl (by first | exact Rd.own rfl | exact Rd.row rfl) | exact Rd.pick 1 rfl (by first | exact Rd.own rfl | exact Rd.row rfl) | exact Rd.pick 2 rfl (by first | exact Rd.own rfl | exact Rd.row rfl) | exact Rd.pick 3 rfl (by first | exact Rd.own rfl | exact Rd.row rfl) | exact Rd.pick 4 rfl (by first | exact Rd.own rfl | exact Rd.row rfl) | exact Rd.pick 5 rfl (by first | exact Rd.own rfl | exact Rd.row rfl) | exact Rd.pick 6 rfl (by first | exact Rd.own rfl | exact Rd.row rfl) | exact Rd.pick 7 rfl (by first | exact Rd.own rfl | exact Rd.row rfl))) rfl ?_
  refine ops_eff' rfl (eff_call Try.call110 rfl rfl (Split.cons 0 rfl (Split.nil _)) (rrefuse_spec pr sv r w r.pos hw)) rfl ?_
  rintro _ H' ⟨_, ⟨rfl, rfl⟩, hH⟩
  simp only [List.cons_append, List.nil_append, List.eraseIdx_cons_zero, List.eraseIdx_cons_succ, List.set_cons_zero, List.set_cons_succ] at hH
  subst hH
  refine ops_nil ?_
  repeat (first | refine InBlock_normal ?_ | refine NoGoto_normal ?_ | refine Jump_normal ?_)
  refine done_normal (res0 rfl) ?_
  exact ⟨rfl, by rw [R.fail, if_neg hw]; rfl⟩
theorem qend_spec (pr : Nat) (p : Option Addr) (c : Nat) (r : R) (hl : r.b.length ≤ 140737488355328) (hp : r.pos ≤ r.b.length) :
    Tri Try.prog 112 [.pointer (some ⟨pr, 0, none⟩)] [rq pr (.slice p r.b.length c) r] (fun v H' => v = .tuple #[.int .i64 r.fin.1, .int .i64 r.fin.2] ∧ H' = [rq pr (.slice p r.b.length c) r]) := by
  by_cases h : r.why = 0
  · rw [rq_no h]
    by_cases h2 : r.pos < r.b.length
    · skip
      refine tri_of_wp Try.func112 rfl Try.ntmps112 (by simp) ?_
      refine wp_seq' ?_
      refine wp_region' ?_
      refine ops_ro' rfl (ro_assign rfl) rfl ?_
      refine ops_ro' rfl (ro_assign rfl) rfl ?_
      refine ops_nil ?_
      repeat (first | refine InBlock_normal ?_ | refine NoGoto_normal ?_ | refine Jump_normal ?_)
      refine Then_normal ?_
      refine wp_seq' ?_
      refine wp_seq' ?_
      refine wp_region' ?_
      refine ops_ro' rfl (ro_move rfl) rfl ?_
      refine ops_ro' rfl (ro_nilCheck rfl) rfl ?_
      refine ops_ro' rfl (ro_fieldAddr fa134_2 rfl) rfl ?_
      refine ops_ro' rfl (ro_load sc4 rfl (by first | exact Rd.pick 0 rfl (by first | exact Rd.own rfl | exact Rd.row rfl) | exact Rd.pick 1 rfl (by first | exact Rd.own rfl | exact Rd.row rfl) | exact Rd.pick 2 rfl (by first | exact Rd.own rfl | exact Rd.row rfl) | exact Rd.pick 3 rfl (by first | exact Rd.own rfl | exact Rd.row rfl) | exact Rd.pick 4 rfl (by first | exact Rd.own rfl | exact Rd.row rfl) | exact Rd.pick 5 rfl (by first | exact Rd.own rfl | exact Rd.row rfl) | exact Rd.pick 6 rfl (by first | exact Rd.own rfl | exact Rd.row rfl) | exact Rd.pick 7 rfl (by first | exact Rd.own rfl | exact Rd.row rfl))) rfl ?_
      refine ops_nil ?_
      repeat (first | refine InBlock_normal ?_ | refine NoGoto_normal ?_ | refine Jump_normal ?_)
      refine Then_normal ?_
      refine wp_condF rfl ?_
      refine wp_skip' ?_
      repeat (first | refine InBlock_normal ?_ | refine NoGoto_normal ?_ | refine Jump_normal ?_)
      refine Then_normal ?_
      refine wp_seq' ?_
      refine wp_seq' ?_
      refine wp_draw 10 (by kernel_rfl) (Split.all _) ?_
      refine any_ro' (i := 0) (by kernel_rfl) rfl rfl (ro_move rfl) rfl (fun _ _ _ h => h) ?_
      refine any_ro' (i := 1) (by kernel_rfl) rfl rfl (ro_nilCheck rfl) rfl (fun _ _ _ h => h) ?_
      refine any_ro' (i := 2) (by kernel_rfl) rfl rfl (ro_fieldAddr fa134_1 rfl) rfl (fun _ _ _ h => h) ?_
      refine any_ro' (i := 3) (by kernel_rfl) rfl rfl (ro_load sc3 rfl (by first | exact Rd.pick 0 rfl (by first | exact Rd.own rfl | exact Rd.row rfl) | exact Rd.pick 1 rfl (by first | exact Rd.own rfl | exact Rd.row rfl) | exact Rd.pick 2 rfl (by first | exact Rd.own rfl | exact Rd.row rfl) | exact Rd.pick 3 rfl (by first | exact Rd.own rfl | exact Rd.row rfl) | exact Rd.pick 4 rfl (by first | exact Rd.own rfl | exact Rd.row rfl) | exact Rd.pick 5 rfl (by first | exact Rd.own rfl | exact Rd.row rfl) | exact Rd.pick 6 rfl (by first | exact Rd.own rfl | exact Rd.row rfl) | exact Rd.pick 7 rfl (by first | exact Rd.own rfl | exact Rd.row rfl))) rfl (fun _ _ _ h => h) ?_
      refine any_ro' (i := 4) (by kernel_rfl) rfl rfl (ro_move rfl) rfl (fun _ _ _ h => h) ?_
      refine any_ro' (i := 5) (by kernel_rfl) rfl rfl (ro_nilCheck rfl) rfl (fun _ _ _ h => h) ?_
      refine any_ro' (i := 6) (by kernel_rfl) rfl rfl (ro_fieldAddr fa134_0 rfl) rfl (fun _ _ _ h => h) ?_
      refine any_ro' (i := 7) (by kernel_rfl) rfl rfl (ro_load sc32 rfl (by first | exact Rd.pick 0 rfl (by first | exact Rd.own rfl | exact Rd.row rfl) | exact Rd.pick 1 rfl (by first | exact Rd.own rfl | exact Rd.row rfl) | exact Rd.pick 2 rfl (by first | exact Rd.own rfl | exact Rd.row rfl) | exact Rd.pick 3 rfl (by first | exact Rd.own rfl | exact Rd.row rfl) | exact Rd.pick 4 rfl (by first | exact Rd.own rfl | exact Rd.row rfl) | exact Rd.pick 5 rfl (by first | exact Rd.own rfl | exact Rd.row rfl) | exact Rd.pick 6 rfl (by first | exact Rd.own rfl | exact Rd.row rfl) | exact Rd.pick 7 rfl (by first | exact Rd.own rfl | exact Rd.row rfl))) rfl (fun _ _ _ h => h) ?_
      refine any_ro' (i := 8) (by kernel_rfl) rfl rfl (ro_sliceLen Try.underlying32 rfl) rfl (fun _ _ _ h => h) ?_
      refine any_ro' (i := 9) (by kernel_rfl) rfl rfl (ro_lss rfl rfl (decide_eq_true (by omega))) rfl (fun _ _ _ h => h) ?_
      refine any_doneL (by kernel_rfl) ?_
      repeat (first | refine InBlock_normal ?_ | refine NoGoto_normal ?_ | refine Jump_normal ?_)
      refine Then_normal ?_
      refine wp_condT rfl ?_
      refine wp_seq' ?_
      refine wp_draw 5 (by kernel_rfl) (Split.all _) ?_
      refine any_ro' (i := 0) (by kernel_rfl) rfl rfl (ro_move rfl) rfl (fun _ _ _ h => h) ?_
      refine any_ro' (i := 1) (by kernel_rfl) rfl rfl (ro_nilCheck rfl) rfl (fun _ _ _ h => h) ?_
      refine any_ro' (i := 2) (by kernel_rfl) rfl rfl (ro_fieldAddr fa134_1 rfl) rfl (fun _ _ _ h => h) ?_
      refine any_ro' (i := 3) (by kernel_rfl) rfl rfl (ro_load sc3 rfl (by first | exact Rd.pick 0 rfl (by first | exact Rd.own rfl | exact Rd.row rfl) | exact Rd.pick 1 rfl (by first | exact Rd.own rfl | exact Rd.row rfl) | exact Rd.pick 2 rfl (by first | exact Rd.own rfl | exact Rd.row rfl) | exact Rd.pick 3 rfl (by first | exact Rd.own rfl | exact Rd.row rfl) | exact Rd.pick 4 rfl (by first | exact Rd.own rfl | exact Rd.row rfl) | exact Rd.pick 5 rfl (by first | exact Rd.own rfl | exact Rd.row rfl) | exact Rd.pick 6 rfl (by first | exact Rd.own rfl | exact Rd.row rfl) | exact Rd.pick 7 rfl (by first | exact Rd.own rfl | exact Rd.row rfl))) rfl (fun _ _ _ h => h) ?_
      refine any_ro' (i := 4) (by kernel_rfl) rfl rfl (ro_assign rfl) rfl (fun _ _ _ h => h) ?_
      refine any_unlock (m' := 6) (L' := []) (by kernel_rfl) unlock ?_
      refine any_ro' (i := 5) (by kernel_rfl) rfl rfl (ro_assign rfl) rfl (fun _ _ _ h => h) ?_
      refine any_doneH (by kernel_rfl) ?_
      repeat (first | refine InBlock_normal ?_ | refine NoGoto_normal ?_ | refine Jump_normal ?_)
      refine Then_normal ?_
      refine wp_ret' ?_
      repeat (first | refine Then_ret ?_ | refine InBlock_ret ?_ | refine NoGoto_ret ?_ | refine Jump_ret ?_)
      refine done_ret (res2 rfl rfl rfl) ?_
      exact ⟨by simp only [R.fin, if_pos h, if_pos h2], rfl⟩
    · skip
      refine tri_of_wp Try.func112 rfl Try.ntmps112 (by simp) ?_
      refine wp_seq' ?_
      refine wp_region' ?_
      refine ops_ro' rfl (ro_assign rfl) rfl ?_
      refine ops_ro' rfl (ro_assign rfl) rfl ?_
      refine ops_nil ?_
      repeat (first | refine InBlock_normal ?_ | refine NoGoto_normal ?_ | refine Jump_normal ?_)
      refine Then_normal ?_
      refine wp_seq' ?_
      refine wp_seq' ?_
      refine wp_region' ?_
      refine ops_ro' rfl (ro_move rfl) rfl ?_
      refine ops_ro' rfl (ro_nilCheck rfl) rfl ?_
      refine ops_ro' rfl (ro_fieldAddr fa134_2 rfl) rfl ?_
      refine ops_ro' rfl (ro_load sc4 rfl (by first | exact Rd.pick 0 rfl (by first | exact Rd.own rfl | exact Rd.row rfl) | exact Rd.pick 1 rfl (by first | exact Rd.own rfl | exact Rd.row rfl) | exact Rd.pick 2 rfl (by first | exact Rd.own rfl | exact Rd.row rfl) | exact Rd.pick 3 rfl (by first | exact Rd.own rfl | exact Rd.row rfl) | exact Rd.pick 4 rfl (by first | exact Rd.own rfl | exact Rd.row rfl) | exact Rd.pick 5 rfl (by first | exact Rd.own rfl | exact Rd.row rfl) | exact Rd.pick 6 rfl (by first | exact Rd.own rfl | exact Rd.row rfl) | exact Rd.pick 7 rfl (by first | exact Rd.own rfl | exact Rd.row rfl))) rfl ?_
      refine ops_nil ?_
      repeat (first | refine InBlock_normal ?_ | refine NoGoto_normal ?_ | refine Jump_normal ?_)
      refine Then_normal ?_
      refine wp_condF rfl ?_
      refine wp_skip' ?_
      repeat (first | refine InBlock_normal ?_ | refine NoGoto_normal ?_ | refine Jump_normal ?_)
      refine Then_normal ?_
      refine wp_seq' ?_
      refine wp_seq' ?_
      refine wp_draw 10 (by kernel_rfl) (Split.all _) ?_
      refine any_ro' (i := 0) (by kernel_rfl) rfl rfl (ro_move rfl) rfl (fun _ _ _ h => h) ?_
      refine any_ro' (i := 1) (by kernel_rfl) rfl rfl (ro_nilCheck rfl) rfl (fun _ _ _ h => h) ?_
      refine any_ro' (i := 2) (by kernel_rfl) rfl rfl (ro_fieldAddr fa134_1 rfl) rfl (fun _ _ _ h => h) ?_
      refine any_ro' (i := 3) (by kernel_rfl) rfl rfl (ro_load sc3 rfl (by first | exact Rd.pick 0 rfl (by first | exact Rd.own rfl | exact Rd.row rfl) | exact Rd.pick 1 rfl (by first | exact Rd.own rfl | exact Rd.row rfl) | exact Rd.pick 2 rfl (by first | exact Rd.own rfl | exact Rd.row rfl) | exact Rd.pick 3 rfl (by first | exact Rd.own rfl | exact Rd.row rfl) | exact Rd.pick 4 rfl (by first | exact Rd.own rfl | exact Rd.row rfl) | exact Rd.pick 5 rfl (by first | exact Rd.own rfl | exact Rd.row rfl) | exact Rd.pick 6 rfl (by first | exact Rd.own rfl | exact Rd.row rfl) | exact Rd.pick 7 rfl (by first | exact Rd.own rfl | exact Rd.row rfl))) rfl (fun _ _ _ h => h) ?_
      refine any_ro' (i := 4) (by kernel_rfl) rfl rfl (ro_move rfl) rfl (fun _ _ _ h => h) ?_
      refine any_ro' (i := 5) (by kernel_rfl) rfl rfl (ro_nilCheck rfl) rfl (fun _ _ _ h => h) ?_
      refine any_ro' (i := 6) (by kernel_rfl) rfl rfl (ro_fieldAddr fa134_0 rfl) rfl (fun _ _ _ h => h) ?_
      refine any_ro' (i := 7) (by kernel_rfl) rfl rfl (ro_load sc32 rfl (by first | exact Rd.pick 0 rfl (by first | exact Rd.own rfl | exact Rd.row rfl) | exact Rd.pick 1 rfl (by first | exact Rd.own rfl | exact Rd.row rfl) | exact Rd.pick 2 rfl (by first | exact Rd.own rfl | exact Rd.row rfl) | exact Rd.pick 3 rfl (by first | exact Rd.own rfl | exact Rd.row rfl) | exact Rd.pick 4 rfl (by first | exact Rd.own rfl | exact Rd.row rfl) | exact Rd.pick 5 rfl (by first | exact Rd.own rfl | exact Rd.row rfl) | exact Rd.pick 6 rfl (by first | exact Rd.own rfl | exact Rd.row rfl) | exact Rd.pick 7 rfl (by first | exact Rd.own rfl | exact Rd.row rfl))) rfl (fun _ _ _ h => h) ?_
      refine any_ro' (i := 8) (by kernel_rfl) rfl rfl (ro_sliceLen Try.underlying32 rfl) rfl (fun _ _ _ h => h) ?_
      refine any_ro' (i := 9) (by kernel_rfl) rfl rfl (ro_lss rfl rfl (decide_eq_false (by omega))) rfl (fun _ _ _ h => h) ?_
      refine any_doneL (by kernel_rfl) ?_
      repeat (first | refine InBlock_normal ?_ | refine NoGoto_normal ?_ | refine Jump_normal ?_)
      refine Then_normal ?_
      refine wp_condF rfl ?_
      refine wp_skip' ?_
      repeat (first | refine InBlock_normal ?_ | refine NoGoto_normal ?_ | refine Jump_normal ?_)
      refine Then_normal ?_
      refine wp_seq' ?_
      refine wp_region' ?_
      refine ops_ro' rfl (ro_assign rfl) rfl ?_
      refine ops_ro' rfl (ro_assign rfl) rfl ?_
      refine ops_nil ?_
      repeat (first | refine InBlock_normal ?_ | refine NoGoto_normal ?_ | refine Jump_normal ?_)
      refine Then_normal ?_
      refine wp_ret' ?_
      repeat (first | refine Then_ret ?_ | refine InBlock_ret ?_ | refine NoGoto_ret ?_ | refine Jump_ret ?_)
      refine done_ret (res2 rfl rfl rfl) ?_
      exact ⟨by simp only [R.fin, if_pos h, if_neg h2], rfl⟩
  · rw [rq_yes h]
    refine tri_of_wp Try.func112 rfl Try.ntmps112 (by simp) ?_
    refine wp_seq' ?_
    refine wp_region' ?_
    refine ops_ro' rfl (ro_assign rfl) rfl ?_
    refine ops_ro' rfl (ro_assign rfl) rfl ?_
    refine ops_nil ?_
    repeat (first | refine InBlock_normal ?_ | refine NoGoto_normal ?_ | refine Jump_normal ?_)
    refine Then_normal ?_
    refine wp_seq' ?_
    refine wp_seq' ?_
    refine wp_region' ?_
    refine ops_ro' rfl (ro_move rfl) rfl ?_
    refine ops_ro' rfl (ro_nilCheck rfl) rfl ?_
    refine ops_ro' rfl (ro_fieldAddr fa134_2 rfl) rfl ?_
    refine ops_ro' rfl (ro_load sc4 rfl (by first | exact Rd.pick 0 rfl (by first | exact Rd.own rfl | exact Rd.row rfl) | exact Rd.pick 1 rfl (by first | exact Rd.own rfl | exact Rd.row rfl) | exact Rd.pick 2 rfl (by first | exact Rd.own rfl | exact Rd.row rfl) | exact Rd.pick 3 rfl (by first | exact Rd.own rfl | exact Rd.row rfl) | exact Rd.pick 4 rfl (by first | exact Rd.own rfl | exact Rd.row rfl) | exact Rd.pick 5 rfl (by first | exact Rd.own rfl | exact Rd.row rfl) | exact Rd.pick 6 rfl (by first | exact Rd.own rfl | exact Rd.row rfl) | exact Rd.pick 7 rfl (by first | exact Rd.own rfl | exact Rd.row rfl))) rfl ?_
    refine ops_nil ?_
    repeat (first | refine InBlock_normal ?_ | refine NoGoto_normal ?_ | refine Jump_normal ?_)
    refine Then_normal ?_
    refine wp_condT rfl ?_
    refine wp_seq' ?_
    refine wp_draw 9 (by kernel_rfl) (Split.all _) ?_
    refine any_ro' (i := 0) (by kernel_rfl) rfl rfl (ro_move rfl) rfl (fun _ _ _ h => h) ?_
    refine any_ro' (i := 1) (by kernel_rfl) rfl rfl (ro_nilCheck rfl) rfl (fun _ _ _ h => h) ?_
    refine any_ro' (i := 2) (by kernel_rfl) rfl rfl (ro_fieldAddr fa134_3 rfl) rfl (fun _ _ _ h => h) ?_
    refine any_ro' (i := 3) (by kernel_rfl) rfl rfl (ro_load sc3 rfl (by first | exact Rd.pick 0 rfl (by first | exact Rd.own rfl | exact Rd.row rfl) | exact Rd.pick 1 rfl (by first | exact Rd.own rfl | exact Rd.row rfl) | exact Rd.pick 2 rfl (by first | exact Rd.own rfl | exact Rd.row rfl) | exact Rd.pick 3 rfl (by first | exact Rd.own rfl | exact Rd.row rfl) | exact Rd.pick 4 rfl (by first | exact Rd.own rfl | exact Rd.row rfl) | exact Rd.pick 5 rfl (by first | exact Rd.own rfl | exact Rd.row rfl) | exact Rd.pick 6 rfl (by first | exact Rd.own rfl | exact Rd.row rfl) | exact Rd.pick 7 rfl (by first | exact Rd.own rfl | exact Rd.row rfl))) rfl (fun _ _ _ h => h) ?_
    refine any_ro' (i := 4) (by kernel_rfl) rfl rfl (ro_move rfl) rfl (fun _ _ _ h => h) ?_
    refine any_ro' (i := 5) (by kernel_rfl) rfl rfl (ro_nilCheck rfl) rfl (fun _ _ _ h => h) ?_
    refine any_ro' (i := 6) (by kernel_rfl) rfl rfl (ro_fieldAddr fa134_4 rfl) rfl (fun _ _ _ h => h) ?_
    refine any_ro' (i := 7) (by kernel_rfl) rfl rfl (ro_load sc3 rfl (by first | exact Rd.pick 0 rfl (by first | exact Rd.own rfl | exact Rd.row rfl) | exact Rd.pick 1 rfl (by first | exact Rd.own rfl | exact Rd.row rfl) | exact Rd.pick 2 rfl (by first | exact Rd.own rfl | exact Rd.row rfl) | exact Rd.pick 3 rfl (by first | exact Rd.own rfl | exact Rd.row rfl) | exact Rd.pick 4 rfl (by first | exact Rd.own rfl | exact Rd.row rfl) | exact Rd.pick 5 rfl (by first | exact Rd.own rfl | exact Rd.row rfl) | exact Rd.pick 6 rfl (by first | exact Rd.own rfl | exact Rd.row rfl) | exact Rd.pick 7 rfl (by first | exact Rd.own rfl | exact Rd.row rfl))) rfl (fun _ _ _ h => h) ?_
    refine any_ro' (i := 8) (by kernel_rfl) rfl rfl (ro_assign rfl) rfl (fun _ _ _ h => h) ?_
    refine any_unlock (m' := 10) (L' := []) (by kernel_rfl) unlock ?_
    refine any_ro' (i := 9) (by kernel_rfl) rfl rfl (ro_assign rfl) rfl (fun _ _ _ h => h) ?_
    refine any_doneH (by kernel_rfl) ?_
    repeat (first | refine InBlock_normal ?_ | refine NoGoto_normal ?_ | refine Jump_normal ?_)
    refine Then_normal ?_
    refine wp_ret' ?_
    repeat (first | refine Then_ret ?_ | refine InBlock_ret ?_ | refine NoGoto_ret ?_ | refine Jump_ret ?_)
    refine done_ret (res2 rfl rfl rfl) ?_
    exact ⟨by simp only [R.fin, if_neg h], rfl⟩

end Go.Proofs.Ytigaolglnnjnmaa
