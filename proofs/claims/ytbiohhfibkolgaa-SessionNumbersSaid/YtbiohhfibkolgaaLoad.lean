/-
  The table out of bytes.
-/
import Derived.Test.YtbiohhfibkolgaaSave
import Derived.Test.YtbiohhfibkolgaaLib
import Derived.Test.YtbiohhfibkolgaaNames
namespace Go.Proofs.Ytbiohhfibkolgaa
open Go.Sx
set_option linter.unusedVariables false
set_option linter.unusedSimpArgs false
set_option maxRecDepth 100000
set_option maxHeartbeats 4000000

theorem equal_spec (W : HProp) (v1 v2 : Value) (n1 n2 : Nat) (l1 l2 : List UInt8) (h1 : Vw W v1 n1 (cel l1)) (h2 : Vw W v2 n2 (cel l2)) (e1 : l1.length = n1) (e2 : l2.length = n2) :
    Tri Try.prog 76 [v1, v2] [W] (fun v H' => ∃ K, (v = .bool (decide (l1 = l2)) ∧ K = []) ∧ H' = K ++ [W]) := fun w F s => by
  have s' : sat w (star W F) := by rw [St_cons, St_nil, star_emp] at s; exact s
  refine (Try.bytes_Equal_strs v1 v2 (str l1) (str l2) w (vw_toStr Try.underlying25 Try.underlying5 Try.underlying9 h1 e1 w F s') (vw_toStr Try.underlying25 Try.underlying5 Try.underlying9 h2 e2 w F s')).mono fun e w' ⟨he, hw⟩ => ⟨_, [W], he, ⟨[], ⟨?_, rfl⟩, rfl⟩, hw ▸ s⟩
  congr 1
  show ((str l1).toList == (str l2).toList) = _
  rw [beqBytes]; exact decide_eq_decide.2 str_iff
/-- 64 bits as a whole number -/
def s64 (n : Nat) : Int := IntKind.i64.wrap (n : Int)
theorem s64_eq {n : Nat} (h : n < 18446744073709551616) : s64 n = if n < 9223372036854775808 then (n : Int) else (n : Int) - 18446744073709551616 := by
  unfold s64 IntKind.wrap; simp only [IntKind.bits, IntKind.signed]; simp; split <;> omega
/-- attributes are read -/
def R.six (r : R) : R × At :=
  let q1 := r.get 4; let q2 := q1.1.get 4; let q3 := q2.1.get 4; let q4 := q3.1.get 4; let q5 := q4.1.get 4; let q6 := q5.1.get 4; let q7 := q6.1.get 8
  (q7.1, ⟨q1.2, q7.2, q2.2, q3.2, q4.2, q5.2, q6.2⟩)
theorem R.good_six {r : R} (h : r.Good) : r.six.1.Good := by unfold R.six; repeat (first | exact h | apply R.good_get)
theorem R.six_ok (r : R) : r.six.2.Ok := by
  refine ⟨?_, ?_, ?_, ?_, ?_, ?_, ?_⟩ <;> exact Nat.lt_of_lt_of_le (get_lt _ _) (by decide)
def R.names : Nat → R → R × List Nm
  | 0, r => (r, [])
  | n + 1, r => if r.why = 0 then ((R.names n (r.text 2147483647).1.six.1).1, ⟨(r.text 2147483647).2, (r.text 2147483647).1.six.2⟩ :: (R.names n (r.text 2147483647).1.six.1).2) else (r, [])
theorem R.good_names : ∀ (n : Nat) {r : R}, r.Good → (R.names n r).1.Good
  | 0, _, h => h
  | n + 1, r, h => by
    unfold R.names; split
    · exact R.good_names n (R.good_six (R.good_text h _))
    · exact h
theorem R.names_len : ∀ (n : Nat) (r : R), (R.names n r).2.length ≤ n
  | 0, _ => Nat.le_refl _
  | n + 1, r => by
    unfold R.names; split
    · have := R.names_len n (r.text 2147483647).1.six.1; simp only [List.length_cons]; omega
    · simp
theorem R.text_len (r : R) (n : Int) : (r.text n).2.length < 4294967296 := by
  have h1 := get_lt r 4
  have h2 := take_len (if (if 0 > n then 0 else n) < ((r.get 4).2 : Int) then (r.get 4).1.refuse 3 r.pos else (r.get 4).1) ((r.get 4).2 : Nat)
  have e : (r.text n).2.length ≤ ((((r.get 4).2 : Nat) : Int)).toNat := h2
  simp only [Nat.reducePow] at h1
  omega
/-- an entry is read -/
def R.entry (r : R) : R × (Int × Rc) :=
  let q1 := r.get 8; let q2 := q1.1.get 8; let q3 := q2.1.get 8; let q4 := q3.1.text 2147483647; let q5 := q4.1.text 2147483647; let q6 := q5.1.get 4; let q7 := R.names q6.2 q6.1; let q8 := q7.1.six
  (q8.1, s64 q1.2, ⟨s64 q2.2, s64 q3.2, q4.2, q5.2, q7.2, q8.2⟩)
theorem R.good_entry {r : R} (h : r.Good) : r.entry.1.Good := R.good_six (R.good_names _ (R.good_get (R.good_text (R.good_text (R.good_get (R.good_get (R.good_get h _) _) _) _) _) _))


theorem six_spec (pr : Nat) (p : Option Addr) (c : Nat) (r : R) (hg : r.Good) :
    Tri Try.prog 88 [.pointer (some ⟨pr, 0, none⟩)] (rd pr p c r) (fun v H' => v = r.six.2.v ∧ H' = rd pr p c r.six.1) := by
  refine tri_of_wpS Try.func88 rfl Try.ntmps88 (by simp) ?_
  refine wp_seq' ?_
  refine wp_region' ?_
  refine ops_eff' rfl (eff_alloc z30) rfl ?_
  rintro _ _ ⟨b2, rfl, rfl⟩
  refine ops_nil ?_
  refine Then_normal ?_
  refine wp_seq' ?_
  refine wp_region' ?_
  refine ops_ro' rfl (ro_move rfl) rfl ?_
  refine ops_eff' rfl (eff_call Try.call67 rfl rfl (by repeat (first | exact Split.nil _ | apply Split.cons 0 rfl | apply Split.cons 1 rfl | apply Split.cons 2 rfl | apply Split.cons 3 rfl | apply Split.cons 4 rfl | apply Split.cons 5 rfl | apply Split.cons 6 rfl | apply Split.cons 7 rfl | apply Split.cons 8 rfl | apply Split.cons 9 rfl | apply Split.cons 10 rfl | apply Split.cons 11 rfl)) (rU32_spec _ _ _ _ (R.Good.len (by repeat (first | assumption | (with_reducible first | apply R.good_get | apply R.good_text | apply R.good_six | apply R.good_names | apply R.good_entry | apply R.good_take | apply R.good_fail | apply R.good_refuse) | (apply R.good_new; omega)))) (R.Good.pos (by repeat (first | assumption | (with_reducible first | apply R.good_get | apply R.good_text | apply R.good_six | apply R.good_names | apply R.good_entry | apply R.good_take | apply R.good_fail | apply R.good_refuse) | (apply R.good_new; omega)))))) rfl ?_
  rintro _ H' ⟨_, ⟨rfl, rfl⟩, hH⟩
  simp only [List.cons_append, List.nil_append, List.eraseIdx_cons_zero, List.eraseIdx_cons_succ, List.set_cons_zero, List.set_cons_succ] at hH
  subst hH
  refine ops_ro' rfl (ro_move rfl) rfl ?_
  refine ops_eff' rfl (eff_call Try.call67 rfl rfl (by repeat (first | exact Split.nil _ | apply Split.cons 0 rfl | apply Split.cons 1 rfl | apply Split.cons 2 rfl | apply Split.cons 3 rfl | apply Split.cons 4 rfl | apply Split.cons 5 rfl | apply Split.cons 6 rfl | apply Split.cons 7 rfl | apply Split.cons 8 rfl | apply Split.cons 9 rfl | apply Split.cons 10 rfl | apply Split.cons 11 rfl)) (rU32_spec _ _ _ _ (R.Good.len (by repeat (first | assumption | (with_reducible first | apply R.good_get | apply R.good_text | apply R.good_six | apply R.good_names | apply R.good_entry | apply R.good_take | apply R.good_fail | apply R.good_refuse) | (apply R.good_new; omega)))) (R.Good.pos (by repeat (first | assumption | (with_reducible first | apply R.good_get | apply R.good_text | apply R.good_six | apply R.good_names | apply R.good_entry | apply R.good_take | apply R.good_fail | apply R.good_refuse) | (apply R.good_new; omega)))))) rfl ?_
  rintro _ H' ⟨_, ⟨rfl, rfl⟩, hH⟩
  simp only [List.cons_append, List.nil_append, List.eraseIdx_cons_zero, List.eraseIdx_cons_succ, List.set_cons_zero, List.set_cons_succ] at hH
  subst hH
  refine ops_ro' rfl (ro_move rfl) rfl ?_
  refine ops_eff' rfl (eff_call Try.call67 rfl rfl (by repeat (first | exact Split.nil _ | apply Split.cons 0 rfl | apply Split.cons 1 rfl | apply Split.cons 2 rfl | apply Split.cons 3 rfl | apply Split.cons 4 rfl | apply Split.cons 5 rfl | apply Split.cons 6 rfl | apply Split.cons 7 rfl | apply Split.cons 8 rfl | apply Split.cons 9 rfl | apply Split.cons 10 rfl | apply Split.cons 11 rfl)) (rU32_spec _ _ _ _ (R.Good.len (by repeat (first | assumption | (with_reducible first | apply R.good_get | apply R.good_text | apply R.good_six | apply R.good_names | apply R.good_entry | apply R.good_take | apply R.good_fail | apply R.good_refuse) | (apply R.good_new; omega)))) (R.Good.pos (by repeat (first | assumption | (with_reducible first | apply R.good_get | apply R.good_text | apply R.good_six | apply R.good_names | apply R.good_entry | apply R.good_take | apply R.good_fail | apply R.good_refuse) | (apply R.good_new; omega)))))) rfl ?_
  rintro _ H' ⟨_, ⟨rfl, rfl⟩, hH⟩
  simp only [List.cons_append, List.nil_append, List.eraseIdx_cons_zero, List.eraseIdx_cons_succ, List.set_cons_zero, List.set_cons_succ] at hH
  subst hH
  refine ops_ro' rfl (ro_move rfl) rfl ?_
  refine ops_eff' rfl (eff_call Try.call67 rfl rfl (by repeat (first | exact Split.nil _ | apply Split.cons 0 rfl | apply Split.cons 1 rfl | apply Split.cons 2 rfl | apply Split.cons 3 rfl | apply Split.cons 4 rfl | apply Split.cons 5 rfl | apply Split.cons 6 rfl | apply Split.cons 7 rfl | apply Split.cons 8 rfl | apply Split.cons 9 rfl | apply Split.cons 10 rfl | apply Split.cons 11 rfl)) (rU32_spec _ _ _ _ (R.Good.len (by repeat (first | assumption | (with_reducible first | apply R.good_get | apply R.good_text | apply R.good_six | apply R.good_names | apply R.good_entry | apply R.good_take | apply R.good_fail | apply R.good_refuse) | (apply R.good_new; omega)))) (R.Good.pos (by repeat (first | assumption | (with_reducible first | apply R.good_get | apply R.good_text | apply R.good_six | apply R.good_names | apply R.good_entry | apply R.good_take | apply R.good_fail | apply R.good_refuse) | (apply R.good_new; omega)))))) rfl ?_
  rintro _ H' ⟨_, ⟨rfl, rfl⟩, hH⟩
  simp only [List.cons_append, List.nil_append, List.eraseIdx_cons_zero, List.eraseIdx_cons_succ, List.set_cons_zero, List.set_cons_succ] at hH
  subst hH
  refine ops_ro' rfl (ro_move rfl) rfl ?_
  refine ops_eff' rfl (eff_call Try.call67 rfl rfl (by repeat (first | exact Split.nil _ | apply Split.cons 0 rfl | apply Split.cons 1 rfl | apply Split.cons 2 rfl | apply Split.cons 3 rfl | apply Split.cons 4 rfl | apply Split.cons 5 rfl | apply Split.cons 6 rfl | apply Split.cons 7 rfl | apply Split.cons 8 rfl | apply Split.cons 9 rfl | apply Split.cons 10 rfl | apply Split.cons 11 rfl)) (rU32_spec _ _ _ _ (R.Good.len (by repeat (first | assumption | (with_reducible first | apply R.good_get | apply R.good_text | apply R.good_six | apply R.good_names | apply R.good_entry | apply R.good_take | apply R.good_fail | apply R.good_refuse) | (apply R.good_new; omega)))) (R.Good.pos (by repeat (first | assumption | (with_reducible first | apply R.good_get | apply R.good_text | apply R.good_six | apply R.good_names | apply R.good_entry | apply R.good_take | apply R.good_fail | apply R.good_refuse) | (apply R.good_new; omega)))))) rfl ?_
  rintro _ H' ⟨_, ⟨rfl, rfl⟩, hH⟩
  simp only [List.cons_append, List.nil_append, List.eraseIdx_cons_zero, List.eraseIdx_cons_succ, List.set_cons_zero, List.set_cons_succ] at hH
  subst hH
  refine ops_ro' rfl (ro_move rfl) rfl ?_
  refine ops_eff' rfl (eff_call Try.call67 rfl rfl (by repeat (first | exact Split.nil _ | apply Split.cons 0 rfl | apply Split.cons 1 rfl | apply Split.cons 2 rfl | apply Split.cons 3 rfl | apply Split.cons 4 rfl | apply Split.cons 5 rfl | apply Split.cons 6 rfl | apply Split.cons 7 rfl | apply Split.cons 8 rfl | apply Split.cons 9 rfl | apply Split.cons 10 rfl | apply Split.cons 11 rfl)) (rU32_spec _ _ _ _ (R.Good.len (by repeat (first | assumption | (with_reducible first | apply R.good_get | apply R.good_text | apply R.good_six | apply R.good_names | apply R.good_entry | apply R.good_take | apply R.good_fail | apply R.good_refuse) | (apply R.good_new; omega)))) (R.Good.pos (by repeat (first | assumption | (with_reducible first | apply R.good_get | apply R.good_text | apply R.good_six | apply R.good_names | apply R.good_entry | apply R.good_take | apply R.good_fail | apply R.good_refuse) | (apply R.good_new; omega)))))) rfl ?_
  rintro _ H' ⟨_, ⟨rfl, rfl⟩, hH⟩
  simp only [List.cons_append, List.nil_append, List.eraseIdx_cons_zero, List.eraseIdx_cons_succ, List.set_cons_zero, List.set_cons_succ] at hH
  subst hH
  refine ops_ro' rfl (ro_build rfl (bld_struct (cs := [_, _, _, _, _, _, _]) st30 rfl)) rfl ?_
  refine ops_eff' rfl (eff_alloc z30) rfl ?_
  rintro _ _ ⟨b3, rfl, rfl⟩
  refine ops_eff0 rfl (eff_storeA 0 ag30 rfl rfl rfl rfl rfl (Nat.le_of_ble_eq_true rfl) (warm_zero _)) rfl ?_
  rintro _ _ rfl
  refine ops_nil ?_
  refine Then_normal ?_
  refine wp_seq' ?_
  refine wp_region' ?_
  refine ops_ro' rfl (ro_move rfl) rfl ?_
  refine ops_eff' rfl (eff_call Try.call70 rfl rfl (by repeat (first | exact Split.nil _ | apply Split.cons 0 rfl | apply Split.cons 1 rfl | apply Split.cons 2 rfl | apply Split.cons 3 rfl | apply Split.cons 4 rfl | apply Split.cons 5 rfl | apply Split.cons 6 rfl | apply Split.cons 7 rfl | apply Split.cons 8 rfl | apply Split.cons 9 rfl | apply Split.cons 10 rfl | apply Split.cons 11 rfl)) (rU64_spec _ _ _ _ (R.Good.len (by repeat (first | assumption | (with_reducible first | apply R.good_get | apply R.good_text | apply R.good_six | apply R.good_names | apply R.good_entry | apply R.good_take | apply R.good_fail | apply R.good_refuse) | (apply R.good_new; omega)))) (R.Good.pos (by repeat (first | assumption | (with_reducible first | apply R.good_get | apply R.good_text | apply R.good_six | apply R.good_names | apply R.good_entry | apply R.good_take | apply R.good_fail | apply R.good_refuse) | (apply R.good_new; omega)))))) rfl ?_
  rintro _ H' ⟨_, ⟨rfl, rfl⟩, hH⟩
  simp only [List.cons_append, List.nil_append, List.eraseIdx_cons_zero, List.eraseIdx_cons_succ, List.set_cons_zero, List.set_cons_succ] at hH
  subst hH
  refine ops_ro' rfl (ro_fieldAddr fa30_1 rfl) rfl ?_
  refine ops_eff0 rfl (eff_store 2 sc28 rfl rfl rfl rfl (Nat.le_of_ble_eq_true rfl) (warm_zero _)) rfl ?_
  rintro _ _ rfl
  refine ops_nil ?_
  refine Then_normal ?_
  refine wp_seq' ?_
  refine wp_region' ?_
  refine ops_ro' rfl (ro_loadA ag30 rfl (RdN.of_pick 2 rfl rdn_all) rfl) rfl ?_
  refine ops_eff0 rfl (eff_storeA 3 ag30 rfl rfl rfl rfl rfl (Nat.le_of_ble_eq_true rfl) (warm_zero _)) rfl ?_
  rintro _ _ rfl
  refine ops_nil ?_
  refine Then_normal ?_
  refine wp_ret' ?_
  refine' doneS_ret (resv1 rfl (rv_cellA ag30 rfl (by first | exact RdN.of_pick 0 rfl rdn_all | exact RdN.of_pick 1 rfl rdn_all | exact RdN.of_pick 2 rfl rdn_all | exact RdN.of_pick 3 rfl rdn_all | exact RdN.of_pick 4 rfl rdn_all | exact RdN.of_pick 5 rfl rdn_all | exact RdN.of_pick 6 rfl rdn_all | exact RdN.of_pick 7 rfl rdn_all | exact RdN.of_pick 8 rfl rdn_all | exact RdN.of_pick 9 rfl rdn_all) rfl)) ?_ ?_
  rotate_left 1
  exact ⟨rfl, rfl⟩
  exact (SubH.cons 0 rfl (SubH.cons 0 rfl (SubH.nil _)))


theorem names_step {q : R} {acc : List Nm} {j : Nat} {x : R × List Nm} {t : R × List UInt8} {a : R × At} (h : x = ((R.names (j + 1) q).1, acc ++ (R.names (j + 1) q).2)) (h0 : q.why = 0) (et : q.text 2147483647 = t) (ea : t.1.six = a) :
    x = ((R.names (j + 1 - 1) a.1).1, (acc ++ [⟨t.2, a.2⟩]) ++ (R.names (j + 1 - 1) a.1).2) := by
  subst et; subst ea
  rw [h, R.names, if_pos h0]; simp
theorem names_end {q : R} {acc : List Nm} {k : Nat} {x : R × List Nm} (h : x = ((R.names k q).1, acc ++ (R.names k q).2)) (h0 : k = 0 ∨ ¬ q.why = 0) : x = (q, acc) := by
  cases k with
  | zero => simpa [R.names] using h
  | succ k => rw [h, R.names, if_neg (by omega)]; simp
theorem entry_at {r q : R} {q1 q2 q3 q6 : R × Nat} {q4 q5 : R × List UInt8} {q8 : R × At} {acc : List Nm} (e1 : r.get 8 = q1) (e2 : q1.1.get 8 = q2) (e3 : q2.1.get 8 = q3) (e4 : q3.1.text 2147483647 = q4) (e5 : q4.1.text 2147483647 = q5) (e6 : q5.1.get 4 = q6)
    (h : R.names q6.2 q6.1 = (q, acc)) (e8 : q.six = q8) : r.entry = (q8.1, s64 q1.2, ⟨s64 q2.2, s64 q3.2, q4.2, q5.2, acc, q8.2⟩) := by
  subst e1; subst e2; subst e3; subst e4; subst e5; subst e6; subst e8
  unfold R.entry; simp only [h]
theorem get_spec21 (pr : Nat) (p : Option Addr) (c : Nat) (r : R) (hg : r.Good) :
    Tri Try.prog 73 [.pointer (some ⟨pr, 0, none⟩)] (rd pr p c r) (fun v H' => ∃ e : En, e.sc = r.entry.2 ∧ v = .agg e.cs.toArray ∧ H' = e.r.rd :: e.r.rn :: rd pr p c r.entry.1) := by
  refine tri_of_wpS Try.func73 rfl Try.ntmps73 (by simp) ?_
  refine wp_seq' ?_
  refine wp_region' ?_
  refine ops_eff' rfl (eff_alloc z93) rfl ?_
  rintro _ _ ⟨b2, rfl, rfl⟩
  refine ops_nil ?_
  refine Then_normal ?_
  refine wp_seq' ?_
  refine wp_region' ?_
  refine ops_ro' rfl (ro_move rfl) rfl ?_
  refine ops_eff' rfl (eff_call Try.call70 rfl rfl (by repeat (first | exact Split.nil _ | apply Split.cons 0 rfl | apply Split.cons 1 rfl | apply Split.cons 2 rfl | apply Split.cons 3 rfl | apply Split.cons 4 rfl | apply Split.cons 5 rfl | apply Split.cons 6 rfl | apply Split.cons 7 rfl | apply Split.cons 8 rfl | apply Split.cons 9 rfl | apply Split.cons 10 rfl | apply Split.cons 11 rfl)) (rU64_spec pr p c r hg.len hg.pos)) rfl ?_
  rintro _ H' ⟨_, ⟨rfl, rfl⟩, hH⟩
  simp only [List.cons_append, List.nil_append, List.eraseIdx_cons_zero, List.eraseIdx_cons_succ, List.set_cons_zero, List.set_cons_succ] at hH
  subst hH
  generalize e1 : r.get 8 = q1
  have g1 : q1.1.Good := e1 ▸ R.good_get hg 8
  refine ops_ro' rfl (ro_conv Try.underlying28 Try.underlying3 rfl (show IntKind.i64.wrap _ = s64 _ from rfl)) rfl ?_
  refine ops_ro' rfl (ro_build rfl (bld_struct (cs := [_, _, _, _, _, _, _, _, _, _, _, _, _]) st93 rfl)) rfl ?_
  refine ops_eff' rfl (eff_alloc z93) rfl ?_
  rintro _ _ ⟨b3, rfl, rfl⟩
  refine ops_eff0 rfl (eff_storeA 0 ag93 rfl rfl rfl rfl rfl (Nat.le_of_ble_eq_true rfl) (warm_zero _)) rfl ?_
  rintro _ _ rfl
  refine ops_nil ?_
  refine Then_normal ?_
  refine wp_seq' ?_
  refine wp_region' ?_
  refine ops_ro' rfl (ro_move rfl) rfl ?_
  refine ops_eff' rfl (eff_call Try.call70 rfl rfl (by repeat (first | exact Split.nil _ | apply Split.cons 0 rfl | apply Split.cons 1 rfl | apply Split.cons 2 rfl | apply Split.cons 3 rfl | apply Split.cons 4 rfl | apply Split.cons 5 rfl | apply Split.cons 6 rfl | apply Split.cons 7 rfl | apply Split.cons 8 rfl | apply Split.cons 9 rfl | apply Split.cons 10 rfl | apply Split.cons 11 rfl)) (rU64_spec pr p c q1.1 g1.len g1.pos)) rfl ?_
  rintro _ H' ⟨_, ⟨rfl, rfl⟩, hH⟩
  simp only [List.cons_append, List.nil_append, List.eraseIdx_cons_zero, List.eraseIdx_cons_succ, List.set_cons_zero, List.set_cons_succ] at hH
  subst hH
  generalize e2 : q1.1.get 8 = q2
  have g2 : q2.1.Good := e2 ▸ R.good_get g1 8
  refine ops_ro' rfl (ro_conv Try.underlying28 Try.underlying3 rfl (show IntKind.i64.wrap _ = s64 _ from rfl)) rfl ?_
  refine ops_ro' rfl (ro_move rfl) rfl ?_
  refine ops_eff' rfl (eff_call Try.call70 rfl rfl (by repeat (first | exact Split.nil _ | apply Split.cons 0 rfl | apply Split.cons 1 rfl | apply Split.cons 2 rfl | apply Split.cons 3 rfl | apply Split.cons 4 rfl | apply Split.cons 5 rfl | apply Split.cons 6 rfl | apply Split.cons 7 rfl | apply Split.cons 8 rfl | apply Split.cons 9 rfl | apply Split.cons 10 rfl | apply Split.cons 11 rfl)) (rU64_spec pr p c q2.1 g2.len g2.pos)) rfl ?_
  rintro _ H' ⟨_, ⟨rfl, rfl⟩, hH⟩
  simp only [List.cons_append, List.nil_append, List.eraseIdx_cons_zero, List.eraseIdx_cons_succ, List.set_cons_zero, List.set_cons_succ] at hH
  subst hH
  generalize e3 : q2.1.get 8 = q3
  have g3 : q3.1.Good := e3 ▸ R.good_get g2 8
  refine ops_ro' rfl (ro_conv Try.underlying28 Try.underlying3 rfl (show IntKind.i64.wrap _ = s64 _ from rfl)) rfl ?_
  refine ops_ro' rfl (ro_move rfl) rfl ?_
  refine ops_eff' rfl (eff_call Try.call87 rfl rfl (by repeat (first | exact Split.nil _ | apply Split.cons 0 rfl | apply Split.cons 1 rfl | apply Split.cons 2 rfl | apply Split.cons 3 rfl | apply Split.cons 4 rfl | apply Split.cons 5 rfl | apply Split.cons 6 rfl | apply Split.cons 7 rfl | apply Split.cons 8 rfl | apply Split.cons 9 rfl | apply Split.cons 10 rfl | apply Split.cons 11 rfl)) (rText_spec pr p c q3.1 g3 2147483647 (by omega))) rfl ?_
  rintro _ H' ⟨_, ⟨rfl, rfl⟩, hH⟩
  simp only [List.cons_append, List.nil_append, List.eraseIdx_cons_zero, List.eraseIdx_cons_succ, List.set_cons_zero, List.set_cons_succ] at hH
  subst hH
  generalize e4 : q3.1.text 2147483647 = q4
  have g4 : q4.1.Good := e4 ▸ R.good_text g3 _
  refine ops_ro' rfl (ro_build rfl (bld_struct (cs := [_, _, _, _, _, _, _, _, _, _, _, _]) st32 rfl)) rfl ?_
  refine ops_ro' rfl (ro_fieldAddr fa93_1 rfl) rfl ?_
  refine ops_eff0 rfl (eff_storeA 2 ag32 rfl rfl rfl rfl rfl (Nat.le_of_ble_eq_true rfl) (warm_zero _)) rfl ?_
  rintro _ _ rfl
  refine ops_nil ?_
  refine Then_normal ?_
  refine wp_seq' ?_
  refine wp_region' ?_
  refine ops_ro' rfl (ro_move rfl) rfl ?_
  refine ops_eff' rfl (eff_call Try.call87 rfl rfl (by repeat (first | exact Split.nil _ | apply Split.cons 0 rfl | apply Split.cons 1 rfl | apply Split.cons 2 rfl | apply Split.cons 3 rfl | apply Split.cons 4 rfl | apply Split.cons 5 rfl | apply Split.cons 6 rfl | apply Split.cons 7 rfl | apply Split.cons 8 rfl | apply Split.cons 9 rfl | apply Split.cons 10 rfl | apply Split.cons 11 rfl)) (rText_spec pr p c q4.1 g4 2147483647 (by omega))) rfl ?_
  rintro _ H' ⟨_, ⟨rfl, rfl⟩, hH⟩
  simp only [List.cons_append, List.nil_append, List.eraseIdx_cons_zero, List.eraseIdx_cons_succ, List.set_cons_zero, List.set_cons_succ] at hH
  subst hH
  have hdl := R.text_len q4.1 2147483647
  generalize e5 : q4.1.text 2147483647 = q5
  have g5 : q5.1.Good := e5 ▸ R.good_text g4 _
  rw [e5] at hdl
  refine ops_eff' rfl (eff_toBytesS Try.underlying9 Try.underlying25 Try.underlying5 rfl (by simp only [maxLen]; omega)) rfl ?_
  rintro _ _ ⟨b21, c21, rfl, rfl⟩
  refine ops_ro' rfl (ro_fieldAddr fa93_1 rfl) rfl ?_
  refine ops_ro' rfl (ro_fieldAddr fa32_3 rfl) rfl ?_
  refine ops_eff0 rfl (eff_store 3 sc25 rfl rfl rfl rfl (Nat.le_of_ble_eq_true rfl) (warm_zero _)) rfl ?_
  rintro _ _ rfl
  refine ops_nil ?_
  refine Then_normal ?_
  refine wp_seq' ?_
  refine wp_seq' ?_
  refine wp_region' ?_
  refine ops_ro' rfl (ro_move rfl) rfl ?_
  refine ops_eff' rfl (eff_call Try.call67 rfl rfl (by repeat (first | exact Split.nil _ | apply Split.cons 0 rfl | apply Split.cons 1 rfl | apply Split.cons 2 rfl | apply Split.cons 3 rfl | apply Split.cons 4 rfl | apply Split.cons 5 rfl | apply Split.cons 6 rfl | apply Split.cons 7 rfl | apply Split.cons 8 rfl | apply Split.cons 9 rfl | apply Split.cons 10 rfl | apply Split.cons 11 rfl)) (rU32_spec pr p c q5.1 g5.len g5.pos)) rfl ?_
  rintro _ H' ⟨_, ⟨rfl, rfl⟩, hH⟩
  simp only [List.cons_append, List.nil_append, List.eraseIdx_cons_zero, List.eraseIdx_cons_succ, List.set_cons_zero, List.set_cons_succ] at hH
  subst hH
  have hn4 := get_lt q5.1 4
  simp only [Nat.reducePow] at hn4
  generalize e6 : q5.1.get 4 = q6
  have g6 : q6.1.Good := e6 ▸ R.good_get g5 4
  rw [e6] at hn4
  refine ops_ro' rfl (ro_assign rfl) rfl ?_
  refine ops_nil ?_
  refine Then_normal ?_
  refine wp_block' ?_
  refine wp_loopK 5 (fun m Δ L => ∃ (k : Nat) (q : R) (acc : List Nm) (pn : Option Addr) (cn : Nat), (acc.length + k ≤ q6.2 ∧ q.Good ∧ k = m ∧ R.names q6.2 q6.1 = ((R.names k q).1, acc ++ (R.names k q).2)) ∧ Δ = [(4, .int .u32 (k : Nat))] ∧ L = [own b3 (.cells (En.cs ⟨s64 q1.2, ⟨⟨s64 q2.2, s64 q3.2, q4.2, q5.2, acc, At.zero⟩, some ⟨b21, 0, none⟩, c21, pn, cn⟩⟩).toArray 93 (0, 0)), row 46 8 (.slice pn acc.length cn) acc.length (ncs acc), row 5 1 (.slice (some ⟨b21, 0, none⟩) q5.2.length c21) q5.2.length (cel q5.2), own b2 (.cells (En.cs En.zero).toArray 93 (0, 0))] ++ rd pr p c q) (m := q6.2) (Has.cons (k := 0) rfl (Has.cons (k := 2) rfl (Has.cons (k := 3) rfl (Has.nil _)))) (kept ⟨q6.2, q6.1, [], none, 0, ⟨by simp, g6, rfl, rfl⟩, rfl, rfl⟩ (by repeat (first | exact Has.nil _ | refine Has.cons rfl ?_)) (by repeat (first | exact Has.nil _ | refine Has.cons rfl ?_)) (by repeat (first | exact SubH.nil _ | refine SubH.cons 0 rfl ?_ | refine SubH.cons 1 rfl ?_ | refine SubH.cons 2 rfl ?_ | refine SubH.cons 3 rfl ?_ | refine SubH.cons 4 rfl ?_ | refine SubH.cons 5 rfl ?_ | refine SubH.cons 6 rfl ?_ | refine SubH.cons 7 rfl ?_ | refine SubH.cons 8 rfl ?_ | refine SubH.cons 9 rfl ?_ | refine SubH.cons 10 rfl ?_ | refine SubH.cons 11 rfl ?_ | refine SubH.cons 12 rfl ?_ | refine SubH.cons 13 rfl ?_ | refine SubH.rown ?_))) ?_
  rintro m Δ L ⟨k, q, acc, pn, cn, ⟨hk, hq, hkm, hnm⟩, rfl, rfl⟩
  simp only [List.cons_append, List.nil_append]
  refine wp_seq' ?_
  refine wp_seq' ?_
  refine wp_region' ?_
  refine ops_ro' rfl (ro_move rfl) rfl ?_
  refine ops_ro' rfl (ro_gtr rfl rfl rfl) rfl ?_
  refine ops_split rfl rfl rfl (fun hg28 => ?_) (fun hg28 => ?_)
  · replace hg28 := of_decide_eq_true hg28
    refine ops_ro' rfl (ro_move rfl) rfl ?_
    refine ops_eff' rfl (eff_call Try.call69 rfl rfl (by repeat (first | exact Split.nil _ | apply Split.cons 0 rfl | apply Split.cons 1 rfl | apply Split.cons 2 rfl | apply Split.cons 3 rfl | apply Split.cons 4 rfl | apply Split.cons 5 rfl | apply Split.cons 6 rfl | apply Split.cons 7 rfl | apply Split.cons 8 rfl | apply Split.cons 9 rfl | apply Split.cons 10 rfl | apply Split.cons 11 rfl)) (fine_spec _ _ _ _)) rfl ?_
    rintro _ H' ⟨_, ⟨rfl, rfl⟩, hH⟩
    simp only [List.cons_append, List.nil_append, List.eraseIdx_cons_zero, List.eraseIdx_cons_succ, List.set_cons_zero, List.set_cons_succ] at hH
    subst hH
    refine ops_ro' rfl (ro_pick rfl rfl) rfl ?_
    refine ops_nil ?_
    refine Then_normal ?_
    refine wp_cond' rfl (fun hc31 => ?_) (fun hc31 => ?_)
    · replace hc31 := of_decide_eq_true hc31
      obtain ⟨j, rfl⟩ : ∃ j, k = j + 1 := ⟨k - 1, by omega⟩
      refine wp_skip' ?_
      refine Then_normal ?_
      refine wp_seq' ?_
      refine wp_block' ?_
      refine wp_draw 10 (by kernel_rfl) (Split.cons 2 rfl (Split.nil _)) ?_
      refine any_ro' (i := 0) (by kernel_rfl) rfl rfl (ro_fieldAddr fa93_1 rfl) rfl (fun _ _ _ h => h) ?_
      refine any_ro' (i := 1) (by kernel_rfl) rfl rfl (ro_fieldAddr fa32_4 rfl) rfl (fun _ _ _ h => h) ?_
      refine any_ro' (i := 2) (by kernel_rfl) rfl rfl (ro_load sc26 rfl (Rd.pick 0 rfl (Rd.own rfl))) rfl (fun _ _ _ h => h) ?_
      refine any_ro' (i := 3) (by kernel_rfl) rfl rfl (ro_move rfl) rfl (fun _ _ _ h => h) ?_
      refine any_ro' (i := 5) (by kernel_rfl) rfl rfl (ro_move rfl) rfl (fun _ _ _ h => h) ?_
      refine any_eff' (i := 4) (by kernel_rfl) rfl rfl (eff_call Try.call87 rfl rfl (by repeat (first | exact Split.nil _ | apply Split.cons 0 rfl | apply Split.cons 1 rfl | apply Split.cons 2 rfl | apply Split.cons 3 rfl | apply Split.cons 4 rfl | apply Split.cons 5 rfl | apply Split.cons 6 rfl | apply Split.cons 7 rfl | apply Split.cons 8 rfl | apply Split.cons 9 rfl | apply Split.cons 10 rfl | apply Split.cons 11 rfl)) (rText_spec pr p c q hq 2147483647 (by omega))) rfl ?_
      rintro _ H' ⟨_, ⟨rfl, rfl⟩, hH⟩
      simp only [List.cons_append, List.nil_append, List.eraseIdx_cons_zero, List.eraseIdx_cons_succ, List.set_cons_zero, List.set_cons_succ] at hH
      subst hH
      generalize et : q.text 2147483647 = t
      have gt : t.1.Good := et ▸ R.good_text hq _
      refine any_eff' (i := 6) (by kernel_rfl) rfl rfl (eff_call Try.call88 rfl rfl (by repeat (first | exact Split.nil _ | apply Split.cons 0 rfl | apply Split.cons 1 rfl | apply Split.cons 2 rfl | apply Split.cons 3 rfl | apply Split.cons 4 rfl | apply Split.cons 5 rfl | apply Split.cons 6 rfl | apply Split.cons 7 rfl | apply Split.cons 8 rfl | apply Split.cons 9 rfl | apply Split.cons 10 rfl | apply Split.cons 11 rfl)) (six_spec pr p c t.1 gt)) rfl ?_
      rintro _ H' ⟨_, ⟨rfl, rfl⟩, hH⟩
      simp only [List.cons_append, List.nil_append, List.eraseIdx_cons_zero, List.eraseIdx_cons_succ, List.set_cons_zero, List.set_cons_succ] at hH
      subst hH
      generalize ea : t.1.six = a
      have ga : a.1.Good := ea ▸ R.good_six gt
      have hnm2 := names_step hnm hc31 et ea
      refine any_ro' (i := 7) (by kernel_rfl) rfl rfl (ro_build rfl (bld_struct (cs := Nm.cs ⟨t.2, a.2⟩) st46 rfl)) rfl (fun _ _ _ h => h) ?_
      refine any_eff' (i := 8) (by kernel_rfl) rfl rfl (eff_lit sl26 rfl (sbld (cs := [_, _, _, _, _, _, _, _]) [(.string ByteArray.empty), (.int .u32 0), (.int .u64 0), (.int .u32 0), (.int .u32 0), (.int .u32 0), (.int .u32 0), (.int .u32 0)] sl26 (by decide) (by kernel_rfl) rfl) rfl (by decide)) rfl ?_
      rintro _ _ ⟨b42, rfl, rfl⟩
      refine any_eff' (i := 9) (by kernel_rfl) rfl rfl (eff_appF (f := Nm.cs) (l2 := [(⟨t.2, a.2⟩ : Nm)]) 3 sl26 (.inl ⟨46, Try.underlying26⟩) rfl rfl rfl (by first | exact Src.flatv Nm.len Nm.one (Vw.pick 0 rfl Vw.row) | exact Src.flatv Nm.len Nm.one (Vw.pick 1 rfl Vw.row) | exact Src.flatv Nm.len Nm.one (Vw.pick 2 rfl Vw.row) | exact Src.flatv Nm.len Nm.one (Vw.pick 3 rfl Vw.row) | exact Src.flatv Nm.len Nm.one (Vw.pick 4 rfl Vw.row) | exact Src.flatv Nm.len Nm.one (Vw.pick 5 rfl Vw.row) | exact Src.flatv Nm.len Nm.one (Vw.pick 6 rfl Vw.row) | exact Src.flatv Nm.len Nm.one (Vw.pick 7 rfl Vw.row) | exact Src.flatv Nm.len Nm.one (Vw.pick 8 rfl Vw.row) | exact Src.flatv Nm.len Nm.one (Vw.pick 9 rfl Vw.row) | exact Src.flatv Nm.len Nm.one (Vw.pick 10 rfl Vw.row) | exact Src.flatv Nm.len Nm.one (Vw.pick 11 rfl Vw.row)) (by simp only [List.length_cons, List.length_nil]; omega) (by simp only [List.length_cons, List.length_nil]; omega)) rfl ?_
      rintro _ _ ⟨p43, c43, rfl, hn43, rfl⟩
      simp only [List.set_cons_zero, List.set_cons_succ]
      refine any_unlock (m' := 13) (L' := []) (by kernel_rfl) unlock ?_
      simp only [List.cons_append, List.nil_append, List.append_nil]
      refine any_ro' (i := 10) (by kernel_rfl) rfl rfl (ro_fieldAddr fa93_1 rfl) rfl (fun _ _ _ h => h) ?_
      refine any_ro' (i := 11) (by kernel_rfl) rfl rfl (ro_fieldAddr fa32_4 rfl) rfl (fun _ _ _ h => h) ?_
      refine any_eff0 (i := 12) (by kernel_rfl) rfl rfl (eff_store 0 sc26 rfl rfl rfl rfl (Nat.le_of_ble_eq_true rfl) (warm_zero _)) rfl ?_
      rintro _ _ rfl
      refine any_doneH (by kernel_rfl) ?_
      refine InBlock_normal ?_
      refine Then_normal ?_
      refine wp_region' ?_
      refine ops_ro' rfl (ro_move rfl) rfl ?_
      refine ops_ro' rfl (ro_sub rfl rfl (by rw [wrap_u32_in (by omega) (by omega)]; omega : IntKind.u32.wrap (((j + 1 : Nat) : Int) - 1) = ((j + 1 - 1 : Nat) : Int))) rfl ?_
      refine ops_ro' rfl (ro_assign rfl) rfl ?_
      refine ops_nil ?_
      refine Then_normal ?_
      refine back (j) (by omega) (kept ⟨j + 1 - 1, a.1, acc ++ [⟨t.2, a.2⟩], p43, c43, ⟨by simp only [List.length_append, List.length_cons, List.length_nil]; omega, ga, by omega, hnm2⟩, rfl, rfl⟩ ?_ ?_ ?_)
      · exact (by repeat (first | exact Has.nil _ | refine Has.cons rfl ?_))
      · exact (by repeat (first | exact Has.nil _ | refine Has.cons rfl ?_))
      · exact (SubH.cons 0 rfl (SubH.cons 3 rfl (SubH.cons 3 rfl (SubH.cons 3 rfl (SubH.cons 1 rfl (SubH.cons 1 rfl (SubH.nil _)))))))
    · replace hc31 := of_decide_eq_false hc31
      refine wp_exit' ?_
      refine Then_exit ?_
      refine Then_exit ?_
      refine InBlock_here ?_
      refine Then_normal ?_
      refine wp_seq' ?_
      have hend := names_end hnm (by first | exact .inl (by omega) | exact .inr (by assumption))
      refine wp_region' ?_
      refine ops_ro' rfl (ro_move rfl) rfl ?_
      refine ops_eff' rfl (eff_call Try.call88 rfl rfl (by repeat (first | exact Split.nil _ | apply Split.cons 0 rfl | apply Split.cons 1 rfl | apply Split.cons 2 rfl | apply Split.cons 3 rfl | apply Split.cons 4 rfl | apply Split.cons 5 rfl | apply Split.cons 6 rfl | apply Split.cons 7 rfl | apply Split.cons 8 rfl | apply Split.cons 9 rfl | apply Split.cons 10 rfl | apply Split.cons 11 rfl)) (six_spec pr p c q hq)) rfl ?_
      rintro _ H' ⟨_, ⟨rfl, rfl⟩, hH⟩
      simp only [List.cons_append, List.nil_append, List.eraseIdx_cons_zero, List.eraseIdx_cons_succ, List.set_cons_zero, List.set_cons_succ] at hH
      subst hH
      generalize e8 : q.six = q8
      have hent := entry_at e1 e2 e3 e4 e5 e6 hend e8
      refine ops_ro' rfl (ro_fieldAddr fa93_1 rfl) rfl ?_
      refine ops_ro' rfl (ro_fieldAddr fa32_5 rfl) rfl ?_
      refine ops_eff0 rfl (eff_storeA 2 ag30 rfl rfl rfl rfl rfl (Nat.le_of_ble_eq_true rfl) (warm_zero _)) rfl ?_
      rintro _ _ rfl
      refine ops_nil ?_
      refine Then_normal ?_
      refine wp_seq' ?_
      refine wp_region' ?_
      refine ops_ro' rfl (ro_loadA ag93 rfl (RdN.of_pick 2 rfl rdn_all) rfl) rfl ?_
      refine ops_eff0 rfl (eff_storeA 5 ag93 rfl rfl rfl rfl rfl (Nat.le_of_ble_eq_true rfl) (warm_zero _)) rfl ?_
      rintro _ _ rfl
      refine ops_nil ?_
      refine Then_normal ?_
      refine wp_ret' ?_
      rw [show q8.1 = r.entry.1 by rw [hent]]
      refine' doneS_ret (resv1 rfl (rv_cellA ag93 rfl (by first | exact RdN.of_pick 0 rfl rdn_all | exact RdN.of_pick 1 rfl rdn_all | exact RdN.of_pick 2 rfl rdn_all | exact RdN.of_pick 3 rfl rdn_all | exact RdN.of_pick 4 rfl rdn_all | exact RdN.of_pick 5 rfl rdn_all | exact RdN.of_pick 6 rfl rdn_all | exact RdN.of_pick 7 rfl rdn_all | exact RdN.of_pick 8 rfl rdn_all | exact RdN.of_pick 9 rfl rdn_all | exact RdN.of_pick 10 rfl rdn_all | exact RdN.of_pick 11 rfl rdn_all) rfl)) ?_ ?_
      rotate_left 1
      exact ⟨⟨s64 q1.2, ⟨⟨s64 q2.2, s64 q3.2, q4.2, q5.2, acc, q8.2⟩, some ⟨b21, 0, none⟩, c21, pn, cn⟩⟩, by rw [hent]; rfl, rfl, rfl⟩
      exact (SubH.cons 4 rfl (SubH.cons 3 rfl (SubH.cons 0 rfl (SubH.cons 0 rfl (SubH.nil _)))))
  · replace hg28 := of_decide_eq_false hg28
    refine ops_skip' rfl rfl ?_
    refine ops_skip' rfl rfl ?_
    refine ops_ro' rfl (ro_pick rfl rfl) rfl ?_
    refine ops_nil ?_
    refine Then_normal ?_
    refine wp_condF rfl ?_
    refine wp_exit' ?_
    refine Then_exit ?_
    refine Then_exit ?_
    refine InBlock_here ?_
    refine Then_normal ?_
    refine wp_seq' ?_
    have hend := names_end hnm (by first | exact .inl (by omega) | exact .inr (by assumption))
    refine wp_region' ?_
    refine ops_ro' rfl (ro_move rfl) rfl ?_
    refine ops_eff' rfl (eff_call Try.call88 rfl rfl (by repeat (first | exact Split.nil _ | apply Split.cons 0 rfl | apply Split.cons 1 rfl | apply Split.cons 2 rfl | apply Split.cons 3 rfl | apply Split.cons 4 rfl | apply Split.cons 5 rfl | apply Split.cons 6 rfl | apply Split.cons 7 rfl | apply Split.cons 8 rfl | apply Split.cons 9 rfl | apply Split.cons 10 rfl | apply Split.cons 11 rfl)) (six_spec pr p c q hq)) rfl ?_
    rintro _ H' ⟨_, ⟨rfl, rfl⟩, hH⟩
    simp only [List.cons_append, List.nil_append, List.eraseIdx_cons_zero, List.eraseIdx_cons_succ, List.set_cons_zero, List.set_cons_succ] at hH
    subst hH
    generalize e8 : q.six = q8
    have hent := entry_at e1 e2 e3 e4 e5 e6 hend e8
    refine ops_ro' rfl (ro_fieldAddr fa93_1 rfl) rfl ?_
    refine ops_ro' rfl (ro_fieldAddr fa32_5 rfl) rfl ?_
    refine ops_eff0 rfl (eff_storeA 2 ag30 rfl rfl rfl rfl rfl (Nat.le_of_ble_eq_true rfl) (warm_zero _)) rfl ?_
    rintro _ _ rfl
    refine ops_nil ?_
    refine Then_normal ?_
    refine wp_seq' ?_
    refine wp_region' ?_
    refine ops_ro' rfl (ro_loadA ag93 rfl (RdN.of_pick 2 rfl rdn_all) rfl) rfl ?_
    refine ops_eff0 rfl (eff_storeA 5 ag93 rfl rfl rfl rfl rfl (Nat.le_of_ble_eq_true rfl) (warm_zero _)) rfl ?_
    rintro _ _ rfl
    refine ops_nil ?_
    refine Then_normal ?_
    refine wp_ret' ?_
    rw [show q8.1 = r.entry.1 by rw [hent]]
    refine' doneS_ret (resv1 rfl (rv_cellA ag93 rfl (by first | exact RdN.of_pick 0 rfl rdn_all | exact RdN.of_pick 1 rfl rdn_all | exact RdN.of_pick 2 rfl rdn_all | exact RdN.of_pick 3 rfl rdn_all | exact RdN.of_pick 4 rfl rdn_all | exact RdN.of_pick 5 rfl rdn_all | exact RdN.of_pick 6 rfl rdn_all | exact RdN.of_pick 7 rfl rdn_all | exact RdN.of_pick 8 rfl rdn_all | exact RdN.of_pick 9 rfl rdn_all | exact RdN.of_pick 10 rfl rdn_all | exact RdN.of_pick 11 rfl rdn_all) rfl)) ?_ ?_
    rotate_left 1
    exact ⟨⟨s64 q1.2, ⟨⟨s64 q2.2, s64 q3.2, q4.2, q5.2, acc, q8.2⟩, some ⟨b21, 0, none⟩, c21, pn, cn⟩⟩, by rw [hent]; rfl, rfl, rfl⟩
    exact (SubH.cons 4 rfl (SubH.cons 3 rfl (SubH.cons 0 rfl (SubH.cons 0 rfl (SubH.nil _)))))

end Go.Proofs.Ytbiohhfibkolgaa
