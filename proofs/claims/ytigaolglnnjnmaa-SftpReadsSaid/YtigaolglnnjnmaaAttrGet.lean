/-
  What attr.Get does.
-/
import Derived.Test.YtigaolglnnjnmaaAttr
namespace Go.Proofs.Ytigaolglnnjnmaa
open Go.Sx
set_option linter.unusedVariables false
set_option linter.unusedSimpArgs false
set_option maxRecDepth 100000

theorem fail_b (r : R) (w : Int) : (r.fail w).b = r.b := by unfold R.fail R.refuse; repeat' split
                                                            all_goals rfl
theorem fail_pos (r : R) (w : Int) : (r.fail w).pos = r.pos := by unfold R.fail R.refuse; repeat' split
                                                                  all_goals rfl
def R.gate (r : R) (f : Nat) : R := if 15 < f then r.fail 12 else r
def R.s1 (q : R × At) : R × At := if q.2.f &&& 1 ≠ 0 then ((q.1.get 8).1, { q.2 with s := (q.1.get 8).2 }) else q
def R.s2 (q : R × At) : R × At := if q.2.f &&& 2 ≠ 0 then (((q.1.get 4).1.get 4).1, { q.2 with u := (q.1.get 4).2, g := ((q.1.get 4).1.get 4).2 }) else q
def R.s3 (q : R × At) : R × At := if q.2.f &&& 4 ≠ 0 then ((q.1.get 4).1, { q.2 with m := (q.1.get 4).2 }) else q
def R.s4 (q : R × At) : R × At := if q.2.f &&& 8 ≠ 0 then (((q.1.get 4).1.get 4).1, { q.2 with a := (q.1.get 4).2, t := ((q.1.get 4).1.get 4).2 }) else q
def R.body (r : R) (x : At) : R × At := R.s4 (R.s3 (R.s2 (R.s1 (r, x))))
/-- attributes are read -/
def R.attrs (r : R) : R × At :=
  if (R.gate (r.get 4).1 (r.get 4).2).why ≠ 0 then (R.gate (r.get 4).1 (r.get 4).2, At.zero)
  else if ((R.gate (r.get 4).1 (r.get 4).2).body { At.zero with f := (r.get 4).2 }).1.why ≠ 0 then (((R.gate (r.get 4).1 (r.get 4).2).body { At.zero with f := (r.get 4).2 }).1, At.zero)
  else (R.gate (r.get 4).1 (r.get 4).2).body { At.zero with f := (r.get 4).2 }
theorem attrs_eq {r r1 r3 r4 r5 r6 : R} {x1 x3 x4 x5 x6 : At} (hx1 : ({ At.zero with f := (r.get 4).2 } : At) = x1) (he1 : r1 = R.gate (r.get 4).1 (r.get 4).2) (h1 : r1.why = 0) (h3 : (r3, x3) = R.s1 (r1, x1)) (h4 : (r4, x4) = R.s2 (r3, x3)) (h5 : (r5, x5) = R.s3 (r4, x4)) (h6 : (r6, x6) = R.s4 (r5, x5)) :
    r.attrs = if r6.why ≠ 0 then (r6, At.zero) else (r6, x6) := by
  have hb : r1.body x1 = (r6, x6) := by rw [R.body, ← h3, ← h4, ← h5, ← h6]
  unfold R.attrs
  rw [← he1, if_neg (by simpa using h1), hx1, hb]
theorem aget_run (pr : Nat) (p : Option Addr) (c : Nat) (r : R) (hl : r.b.length ≤ 140737488355328) (hp : r.pos ≤ r.b.length) :
    Tri Try.prog 64 [.pointer (some ⟨pr, 0, none⟩)] (rd pr p c r) (fun v H' => v = r.attrs.2.v ∧ ∃ A1 A2, H' = rd pr p c r.attrs.1 ++ [A1, A2]) := by
  refine tri_of_wp Try.func64 rfl Try.ntmps64 (by simp) ?_
  refine wp_seq' ?_
  refine wp_region' ?_
  refine ops_eff' rfl (eff_alloc z54) rfl ?_
  rintro _ _ ⟨b2, rfl, rfl⟩
  refine ops_nil ?_
  repeat (first | refine InBlock_normal ?_ | refine NoGoto_normal ?_ | refine Jump_normal ?_)
  refine Then_normal ?_
  refine wp_seq' ?_
  refine wp_seq' ?_
  refine wp_region' ?_
  refine ops_ro' rfl (ro_move rfl) rfl ?_
  refine ops_ro' rfl (ro_ptrEqlNil Try.underlying100 rfl rfl rfl) rfl ?_
  refine ops_nil ?_
  repeat (first | refine InBlock_normal ?_ | refine NoGoto_normal ?_ | refine Jump_normal ?_)
  refine Then_normal ?_
  refine wp_condF rfl ?_
  refine wp_skip' ?_
  repeat (first | refine InBlock_normal ?_ | refine NoGoto_normal ?_ | refine Jump_normal ?_)
  refine Then_normal ?_
  refine wp_seq' ?_
  refine wp_region' ?_
  refine ops_ro' rfl (ro_move rfl) rfl ?_
  refine ops_eff' rfl (eff_call Try.call60 rfl rfl (by first | exact Split.cons 0 rfl (Split.cons 0 rfl (Split.nil _)) | exact Split.cons 1 rfl (Split.cons 1 rfl (Split.nil _)) | exact Split.cons 2 rfl (Split.cons 2 rfl (Split.nil _)) | exact Split.cons 3 rfl (Split.cons 3 rfl (Split.nil _)) | exact Split.cons 4 rfl (Split.cons 4 rfl (Split.nil _)) | exact Split.cons 5 rfl (Split.cons 5 rfl (Split.nil _)) | exact Split.cons 6 rfl (Split.cons 6 rfl (Split.nil _)) | exact Split.cons 7 rfl (Split.cons 7 rfl (Split.nil _)) | exact Split.cons 0 rfl (Split.cons 1 rfl (Split.nil _)) | exact Split.cons 0 rfl (Split.cons 2 rfl (Split.nil _)) | exact Split.cons 0 rfl (Split.cons 3 rfl (Split.nil _)) | exact Split.cons 0 rfl (Split.cons 4 rfl (Split.nil _)) | exact Split.cons 0 rfl (Split.cons 5 rfl (Split.nil _)) | exact Split.cons 0 rfl (Split.cons 6 rfl (Split.nil _)) | exact Split.cons 1 rfl (Split.cons 0 rfl (Split.nil _)) | exact Split.cons 1 rfl (Split.cons 2 rfl (Split.nil _)) | exact Split.cons 1 rfl (Split.cons 3 rfl (Split.nil _)) | exact Split.cons 1 rfl (Split.cons 4 rfl (Split.nil _)) | exact Split.cons 1 rfl (Split.cons 5 rfl (Split.nil _)) | exact Split.cons 1 rfl (Split.cons 6 rfl (Split.nil _)) | exact Split.cons 2 rfl (Split.cons 0 rfl (Split.nil _)) | exact Split.cons 2 rfl (Split.cons 1 rfl (Split.nil _)) | exact Split.cons 2 rfl (Split.cons 3 rfl (Split.nil _)) | exact Split.cons 2 rfl (Split.cons 4 rfl (Split.nil _)) | exact Split.cons 2 rfl (Split.cons 5 rfl (Split.nil _)) | exact Split.cons 2 rfl (Split.cons 6 rfl (Split.nil _)) | exact Split.cons 3 rfl (Split.cons 0 rfl (Split.nil _)) | exact Split.cons 3 rfl (Split.cons 1 rfl (Split.nil _)) | exact Split.cons 3 rfl (Split.cons 2 rfl (Split.nil _)) | exact Split.cons 3 rfl (Split.cons 4 rfl (Split.nil _)) | exact Split.cons 3 rfl (Split.cons 5 rfl (Split.nil _)) | exact Split.cons 3 rfl (Split.cons 6 rfl (Split.nil _)) | exact Split.cons 4 rfl (Split.cons 0 rfl (Split.nil _)) | exact Split.cons 4 rfl (Split.cons 1 rfl (Split.nil _)) | exact Split.cons 4 rfl (Split.cons 2 rfl (Split.nil _)) | exact Split.cons 4 rfl (Split.cons 3 rfl (Split.nil _)) | exact Split.cons 4 rfl (Split.cons 5 rfl (Split.nil _)) | exact Split.cons 4 rfl (Split.cons 6 rfl (Split.nil _)) | exact Split.cons 5 rfl (Split.cons 0 rfl (Split.nil _)) | exact Split.cons 5 rfl (Split.cons 1 rfl (Split.nil _)) | exact Split.cons 5 rfl (Split.cons 2 rfl (Split.nil _)) | exact Split.cons 5 rfl (Split.cons 3 rfl (Split.nil _)) | exact Split.cons 5 rfl (Split.cons 4 rfl (Split.nil _)) | exact Split.cons 5 rfl (Split.cons 6 rfl (Split.nil _)) | exact Split.cons 6 rfl (Split.cons 0 rfl (Split.nil _)) | exact Split.cons 6 rfl (Split.cons 1 rfl (Split.nil _)) | exact Split.cons 6 rfl (Split.cons 2 rfl (Split.nil _)) | exact Split.cons 6 rfl (Split.cons 3 rfl (Split.nil _)) | exact Split.cons 6 rfl (Split.cons 4 rfl (Split.nil _)) | exact Split.cons 6 rfl (Split.cons 5 rfl (Split.nil _)) | exact Split.cons 7 rfl (Split.cons 0 rfl (Split.nil _)) | exact Split.cons 7 rfl (Split.cons 1 rfl (Split.nil _)) | exact Split.cons 7 rfl (Split.cons 2 rfl (Split.nil _)) | exact Split.cons 7 rfl (Split.cons 3 rfl (Split.nil _)) | exact Split.cons 7 rfl (Split.cons 4 rfl (Split.nil _)) | exact Split.cons 7 rfl (Split.cons 5 rfl (Split.nil _)) | exact Split.cons 7 rfl (Split.cons 6 rfl (Split.nil _))) (rU32_spec _ _ _ r hl hp)) rfl ?_
  rintro _ H' ⟨_, ⟨rfl, rfl⟩, hH⟩
  simp only [List.cons_append, List.nil_append, List.eraseIdx_cons_zero, List.eraseIdx_cons_succ, List.set_cons_zero, List.set_cons_succ] at hH
  subst hH
  refine ops_ro' rfl (ro_build rfl (show Bld Try.prog 54 _ (At.v { At.zero with f := (r.get 4).2 }) from bld_struct (cs := At.cs { At.zero with f := (r.get 4).2 }) st54 rfl)) rfl ?_
  refine ops_eff' rfl (eff_alloc z54) rfl ?_
  rintro _ _ ⟨b3, rfl, rfl⟩
  refine ops_eff0 rfl ((by first | exact eff_storeA 0 ag54 rfl rfl rfl rfl rfl (Nat.le_of_ble_eq_true rfl) (warm_zero _) | exact eff_storeA 1 ag54 rfl rfl rfl rfl rfl (Nat.le_of_ble_eq_true rfl) (warm_zero _) | exact eff_storeA 2 ag54 rfl rfl rfl rfl rfl (Nat.le_of_ble_eq_true rfl) (warm_zero _) | exact eff_storeA 3 ag54 rfl rfl rfl rfl rfl (Nat.le_of_ble_eq_true rfl) (warm_zero _) | exact eff_storeA 4 ag54 rfl rfl rfl rfl rfl (Nat.le_of_ble_eq_true rfl) (warm_zero _) | exact eff_storeA 5 ag54 rfl rfl rfl rfl rfl (Nat.le_of_ble_eq_true rfl) (warm_zero _) | exact eff_storeA 6 ag54 rfl rfl rfl rfl rfl (Nat.le_of_ble_eq_true rfl) (warm_zero _) | exact eff_storeA 7 ag54 rfl rfl rfl rfl rfl (Nat.le_of_ble_eq_true rfl) (warm_zero _))) rfl ?_
  rintro _ _ rfl
  refine ops_front 2 rfl ?_
  refine ops_front 2 rfl ?_
  refine ops_nil ?_
  repeat (first | refine InBlock_normal ?_ | refine NoGoto_normal ?_ | refine Jump_normal ?_)
  refine Then_normal ?_
  refine wp_cut (fun Γ H => Has Γ [(0, .pointer (some ⟨pr, 0, none⟩)), (2, .pointer (some ⟨b2, 0, none⟩)), (3, .pointer (some ⟨b3, 0, none⟩))] ∧ ∃ r1, r1 = R.gate (r.get 4).1 (r.get 4).2 ∧ r1.b = r.b ∧ r1.pos ≤ r.b.length ∧ H = rd pr p c (r1) ++ [own b3 (.cells ({ At.zero with f := (r.get 4).2 }).cs.toArray 54 (0, 0)), own b2 (.cells At.zero.cs.toArray 54 (0, 0))]) ?_ ?_
  · refine wp_seq' ?_
    refine wp_region' ?_
    refine ops_ro' rfl (ro_fieldAddr fa54_0 rfl) rfl ?_
    refine ops_ro' rfl (ro_load sc40 rfl (by first | exact Rd.pick 0 rfl (by first | exact Rd.own rfl | exact Rd.row rfl) | exact Rd.pick 1 rfl (by first | exact Rd.own rfl | exact Rd.row rfl) | exact Rd.pick 2 rfl (by first | exact Rd.own rfl | exact Rd.row rfl) | exact Rd.pick 3 rfl (by first | exact Rd.own rfl | exact Rd.row rfl) | exact Rd.pick 4 rfl (by first | exact Rd.own rfl | exact Rd.row rfl) | exact Rd.pick 5 rfl (by first | exact Rd.own rfl | exact Rd.row rfl) | exact Rd.pick 6 rfl (by first | exact Rd.own rfl | exact Rd.row rfl) | exact Rd.pick 7 rfl (by first | exact Rd.own rfl | exact Rd.row rfl))) rfl ?_
    refine ops_ro' rfl (ro_gtr rfl rfl rfl) rfl ?_
    refine ops_nil ?_
    repeat (first | refine InBlock_normal ?_ | refine NoGoto_normal ?_ | refine Jump_normal ?_)
    refine Then_normal ?_
    refine wp_cond' rfl (fun hc1 => ?_) (fun hc1 => ?_)
    · try replace hc1 := of_decide_eq_true hc1
      refine wp_region' ?_
      refine ops_ro' rfl (ro_move rfl) rfl ?_
      refine ops_eff' rfl (eff_call Try.call77 rfl rfl (by first | exact Split.cons 0 rfl (Split.cons 0 rfl (Split.nil _)) | exact Split.cons 1 rfl (Split.cons 1 rfl (Split.nil _)) | exact Split.cons 2 rfl (Split.cons 2 rfl (Split.nil _)) | exact Split.cons 3 rfl (Split.cons 3 rfl (Split.nil _)) | exact Split.cons 4 rfl (Split.cons 4 rfl (Split.nil _)) | exact Split.cons 5 rfl (Split.cons 5 rfl (Split.nil _)) | exact Split.cons 6 rfl (Split.cons 6 rfl (Split.nil _)) | exact Split.cons 7 rfl (Split.cons 7 rfl (Split.nil _)) | exact Split.cons 0 rfl (Split.cons 1 rfl (Split.nil _)) | exact Split.cons 0 rfl (Split.cons 2 rfl (Split.nil _)) | exact Split.cons 0 rfl (Split.cons 3 rfl (Split.nil _)) | exact Split.cons 0 rfl (Split.cons 4 rfl (Split.nil _)) | exact Split.cons 0 rfl (Split.cons 5 rfl (Split.nil _)) | exact Split.cons 0 rfl (Split.cons 6 rfl (Split.nil _)) | exact Split.cons 1 rfl (Split.cons 0 rfl (Split.nil _)) | exact Split.cons 1 rfl (Split.cons 2 rfl (Split.nil _)) | exact Split.cons 1 rfl (Split.cons 3 rfl (Split.nil _)) | exact Split.cons 1 rfl (Split.cons 4 rfl (Split.nil _)) | exact Split.cons 1 rfl (Split.cons 5 rfl (Split.nil _)) | exact Split.cons 1 rfl (Split.cons 6 rfl (Split.nil _)) | exact Split.cons 2 rfl (Split.cons 0 rfl (Split.nil _)) | exact Split.cons 2 rfl (Split.cons 1 rfl (Split.nil _)) | exact Split.cons 2 rfl (Split.cons 3 rfl (Split.nil _)) | exact Split.cons 2 rfl (Split.cons 4 rfl (Split.nil _)) | exact Split.cons 2 rfl (Split.cons 5 rfl (Split.nil _)) | exact Split.cons 2 rfl (Split.cons 6 rfl (Split.nil _)) | exact Split.cons 3 rfl (Split.cons 0 rfl (Split.nil _)) | exact Split.cons 3 rfl (Split.cons 1 rfl (Split.nil _)) | exact Split.cons 3 rfl (Split.cons 2 rfl (Split.nil _)) | exact Split.cons 3 rfl (Split.cons 4 rfl (Split.nil _)) | exact Split.cons 3 rfl (Split.cons 5 rfl (Split.nil _)) | exact Split.cons 3 rfl (Split.cons 6 rfl (Split.nil _)) | exact Split.cons 4 rfl (Split.cons 0 rfl (Split.nil _)) | exact Split.cons 4 rfl (Split.cons 1 rfl (Split.nil _)) | exact Split.cons 4 rfl (Split.cons 2 rfl (Split.nil _)) | exact Split.cons 4 rfl (Split.cons 3 rfl (Split.nil _)) | exact Split.cons 4 rfl (Split.cons 5 rfl (Split.nil _)) | exact Split.cons 4 rfl (Split.cons 6 rfl (Split.nil _)) | exact Split.cons 5 rfl (Split.cons 0 rfl (Split.nil _)) | exact Split.cons 5 rfl (Split.cons 1 rfl (Split.nil _)) | exact Split.cons 5 rfl (Split.cons 2 rfl (Split.nil _)) | exact Split.cons 5 rfl (Split.cons 3 rfl (Split.nil _)) | exact Split.cons 5 rfl (Split.cons 4 rfl (Split.nil _)) | exact Split.cons 5 rfl (Split.cons 6 rfl (Split.nil _)) | exact Split.cons 6 rfl (Split.cons 0 rfl (Split.nil _)) | exact Split.cons 6 rfl (Split.cons 1 rfl (Split.nil _)) | exact Split.cons 6 rfl (Split.cons 2 rfl (Split.nil _)) | exact Split.cons 6 rfl (Split.cons 3 rfl (Split.nil _)) | exact Split.cons 6 rfl (Split.cons 4 rfl (Split.nil _)) | exact Split.cons 6 rfl (Split.cons 5 rfl (Split.nil _)) | exact Split.cons 7 rfl (Split.cons 0 rfl (Split.nil _)) | exact Split.cons 7 rfl (Split.cons 1 rfl (Split.nil _)) | exact Split.cons 7 rfl (Split.cons 2 rfl (Split.nil _)) | exact Split.cons 7 rfl (Split.cons 3 rfl (Split.nil _)) | exact Split.cons 7 rfl (Split.cons 4 rfl (Split.nil _)) | exact Split.cons 7 rfl (Split.cons 5 rfl (Split.nil _)) | exact Split.cons 7 rfl (Split.cons 6 rfl (Split.nil _))) (fail_spec _ _ _ _ 12)) rfl ?_
      rintro _ H' ⟨_, ⟨rfl, rfl⟩, hH⟩
      simp only [List.cons_append, List.nil_append, List.eraseIdx_cons_zero, List.eraseIdx_cons_succ, List.set_cons_zero, List.set_cons_succ] at hH
      subst hH
      refine ops_nil ?_
      repeat (first | refine InBlock_normal ?_ | refine NoGoto_normal ?_ | refine Jump_normal ?_)
      refine Then_normal ?_
      refine ⟨Has.cons rfl (Has.cons rfl (Has.cons rfl (Has.nil _))), (r.get 4).1.fail 12, by rw [R.gate, if_pos (by have h : (15:Int) < ((r.get 4).2 : Int) := hc1; omega)], by rw [fail_b, get_b], by rw [fail_pos]; exact get_pos r 4 hp, rfl⟩
    · try replace hc1 := of_decide_eq_false hc1
      refine wp_skip' ?_
      repeat (first | refine InBlock_normal ?_ | refine NoGoto_normal ?_ | refine Jump_normal ?_)
      refine Then_normal ?_
      refine ⟨Has.cons rfl (Has.cons rfl (Has.cons rfl (Has.nil _))), (r.get 4).1, by rw [R.gate, if_neg (by have h : ¬ (15:Int) < ((r.get 4).2 : Int) := hc1; omega)], get_b r 4, get_pos r 4 hp, rfl⟩
  rintro Γ H ⟨hΓ, r1, he1, hb1, hp1, rfl⟩
  refine wp_has hΓ ?_
  generalize hx1 : ({ At.zero with f := (r.get 4).2 } : At) = x1
  have hf1 : x1.f < 4294967296 := by rw [← hx1]; exact get_lt r 4
  refine wp_seq' ?_
  refine wp_seq' ?_
  refine wp_region' ?_
  refine ops_ro' rfl (ro_move rfl) rfl ?_
  refine ops_eff' rfl (eff_call Try.call90 rfl rfl (by first | exact Split.cons 0 rfl (Split.cons 0 rfl (Split.nil _)) | exact Split.cons 1 rfl (Split.cons 1 rfl (Split.nil _)) | exact Split.cons 2 rfl (Split.cons 2 rfl (Split.nil _)) | exact Split.cons 3 rfl (Split.cons 3 rfl (Split.nil _)) | exact Split.cons 4 rfl (Split.cons 4 rfl (Split.nil _)) | exact Split.cons 5 rfl (Split.cons 5 rfl (Split.nil _)) | exact Split.cons 6 rfl (Split.cons 6 rfl (Split.nil _)) | exact Split.cons 7 rfl (Split.cons 7 rfl (Split.nil _)) | exact Split.cons 0 rfl (Split.cons 1 rfl (Split.nil _)) | exact Split.cons 0 rfl (Split.cons 2 rfl (Split.nil _)) | exact Split.cons 0 rfl (Split.cons 3 rfl (Split.nil _)) | exact Split.cons 0 rfl (Split.cons 4 rfl (Split.nil _)) | exact Split.cons 0 rfl (Split.cons 5 rfl (Split.nil _)) | exact Split.cons 0 rfl (Split.cons 6 rfl (Split.nil _)) | exact Split.cons 1 rfl (Split.cons 0 rfl (Split.nil _)) | exact Split.cons 1 rfl (Split.cons 2 rfl (Split.nil _)) | exact Split.cons 1 rfl (Split.cons 3 rfl (Split.nil _)) | exact Split.cons 1 rfl (Split.cons 4 rfl (Split.nil _)) | exact Split.cons 1 rfl (Split.cons 5 rfl (Split.nil _)) | exact Split.cons 1 rfl (Split.cons 6 rfl (Split.nil _)) | exact Split.cons 2 rfl (Split.cons 0 rfl (Split.nil _)) | exact Split.cons 2 rfl (Split.cons 1 rfl (Split.nil _)) | exact Split.cons 2 rfl (Split.cons 3 rfl (Split.nil _)) | exact Split.cons 2 rfl (Split.cons 4 rfl (Split.nil _)) | exact Split.cons 2 rfl (Split.cons 5 rfl (Split.nil _)) | exact Split.cons 2 rfl (Split.cons 6 rfl (Split.nil _)) | exact Split.cons 3 rfl (Split.cons 0 rfl (Split.nil _)) | exact Split.cons 3 rfl (Split.cons 1 rfl (Split.nil _)) | exact Split.cons 3 rfl (Split.cons 2 rfl (Split.nil _)) | exact Split.cons 3 rfl (Split.cons 4 rfl (Split.nil _)) | exact Split.cons 3 rfl (Split.cons 5 rfl (Split.nil _)) | exact Split.cons 3 rfl (Split.cons 6 rfl (Split.nil _)) | exact Split.cons 4 rfl (Split.cons 0 rfl (Split.nil _)) | exact Split.cons 4 rfl (Split.cons 1 rfl (Split.nil _)) | exact Split.cons 4 rfl (Split.cons 2 rfl (Split.nil _)) | exact Split.cons 4 rfl (Split.cons 3 rfl (Split.nil _)) | exact Split.cons 4 rfl (Split.cons 5 rfl (Split.nil _)) | exact Split.cons 4 rfl (Split.cons 6 rfl (Split.nil _)) | exact Split.cons 5 rfl (Split.cons 0 rfl (Split.nil _)) | exact Split.cons 5 rfl (Split.cons 1 rfl (Split.nil _)) | exact Split.cons 5 rfl (Split.cons 2 rfl (Split.nil _)) | exact Split.cons 5 rfl (Split.cons 3 rfl (Split.nil _)) | exact Split.cons 5 rfl (Split.cons 4 rfl (Split.nil _)) | exact Split.cons 5 rfl (Split.cons 6 rfl (Split.nil _)) | exact Split.cons 6 rfl (Split.cons 0 rfl (Split.nil _)) | exact Split.cons 6 rfl (Split.cons 1 rfl (Split.nil _)) | exact Split.cons 6 rfl (Split.cons 2 rfl (Split.nil _)) | exact Split.cons 6 rfl (Split.cons 3 rfl (Split.nil _)) | exact Split.cons 6 rfl (Split.cons 4 rfl (Split.nil _)) | exact Split.cons 6 rfl (Split.cons 5 rfl (Split.nil _)) | exact Split.cons 7 rfl (Split.cons 0 rfl (Split.nil _)) | exact Split.cons 7 rfl (Split.cons 1 rfl (Split.nil _)) | exact Split.cons 7 rfl (Split.cons 2 rfl (Split.nil _)) | exact Split.cons 7 rfl (Split.cons 3 rfl (Split.nil _)) | exact Split.cons 7 rfl (Split.cons 4 rfl (Split.nil _)) | exact Split.cons 7 rfl (Split.cons 5 rfl (Split.nil _)) | exact Split.cons 7 rfl (Split.cons 6 rfl (Split.nil _))) (fine_spec _ _ _ r1)) rfl ?_
  rintro _ H' ⟨_, ⟨rfl, rfl⟩, hH⟩
  simp only [List.cons_append, List.nil_append, List.eraseIdx_cons_zero, List.eraseIdx_cons_succ, List.set_cons_zero, List.set_cons_succ] at hH
  subst hH
  refine ops_ro' rfl (ro_not rfl rfl) rfl ?_
  refine ops_nil ?_
  repeat (first | refine InBlock_normal ?_ | refine NoGoto_normal ?_ | refine Jump_normal ?_)
  refine Then_normal ?_
  refine wp_cond' rfl (fun hc2 => ?_) (fun hc2 => ?_)
  · simp only [Bool.not_eq_true', decide_eq_false_iff_not, Bool.not_eq_false', decide_eq_true_eq] at hc2
    refine wp_seq' ?_
    refine wp_region' ?_
    refine ops_ro' rfl (ro_build rfl (show Bld Try.prog 54 [] At.zero.v from bld_struct (cs := At.zero.cs) st54 rfl)) rfl ?_
    refine ops_eff0 rfl ((by first | exact eff_storeA 0 ag54 rfl rfl rfl rfl rfl (Nat.le_of_ble_eq_true rfl) (warm_zero _) | exact eff_storeA 1 ag54 rfl rfl rfl rfl rfl (Nat.le_of_ble_eq_true rfl) (warm_zero _) | exact eff_storeA 2 ag54 rfl rfl rfl rfl rfl (Nat.le_of_ble_eq_true rfl) (warm_zero _) | exact eff_storeA 3 ag54 rfl rfl rfl rfl rfl (Nat.le_of_ble_eq_true rfl) (warm_zero _) | exact eff_storeA 4 ag54 rfl rfl rfl rfl rfl (Nat.le_of_ble_eq_true rfl) (warm_zero _) | exact eff_storeA 5 ag54 rfl rfl rfl rfl rfl (Nat.le_of_ble_eq_true rfl) (warm_zero _) | exact eff_storeA 6 ag54 rfl rfl rfl rfl rfl (Nat.le_of_ble_eq_true rfl) (warm_zero _) | exact eff_storeA 7 ag54 rfl rfl rfl rfl rfl (Nat.le_of_ble_eq_true rfl) (warm_zero _))) rfl ?_
    rintro _ _ rfl
    refine ops_nil ?_
    repeat (first | refine InBlock_normal ?_ | refine NoGoto_normal ?_ | refine Jump_normal ?_)
    refine Then_normal ?_
    refine wp_ret' ?_
    repeat (first | refine Then_ret ?_ | refine InBlock_ret ?_ | refine NoGoto_ret ?_ | refine Jump_ret ?_)
    refine done_ret (resv1 rfl (rv_cellA ag54 rfl (by first | exact RdN.of_pick 0 rfl rdn_all | exact RdN.of_pick 1 rfl rdn_all | exact RdN.of_pick 2 rfl rdn_all | exact RdN.of_pick 3 rfl rdn_all | exact RdN.of_pick 4 rfl rdn_all | exact RdN.of_pick 5 rfl rdn_all | exact RdN.of_pick 6 rfl rdn_all | exact RdN.of_pick 7 rfl rdn_all) rfl)) ?_
    have e : r.attrs = (r1, At.zero) := by rw [R.attrs, ← he1, if_pos hc2]
    rw [e]; exact ⟨rfl, _, _, rfl⟩
  · simp only [Bool.not_eq_true', decide_eq_false_iff_not, Bool.not_eq_false', decide_eq_true_eq] at hc2
    refine wp_skip' ?_
    repeat (first | refine InBlock_normal ?_ | refine NoGoto_normal ?_ | refine Jump_normal ?_)
    refine Then_normal ?_
    refine wp_cut (fun Γ H => Has Γ [(0, .pointer (some ⟨pr, 0, none⟩)), (2, .pointer (some ⟨b2, 0, none⟩)), (3, .pointer (some ⟨b3, 0, none⟩))] ∧ ∃ r' x', (r', x') = R.s1 (r1, x1) ∧ r'.b = r.b ∧ r'.pos ≤ r.b.length ∧ x'.f = x1.f ∧ H = rd pr p c (r') ++ [own b3 (.cells (x').cs.toArray 54 (0, 0)), own b2 (.cells At.zero.cs.toArray 54 (0, 0))]) ?_ ?_
    · refine wp_seq' ?_
      refine wp_region' ?_
      refine ops_ro' rfl (ro_fieldAddr fa54_0 rfl) rfl ?_
      refine ops_ro' rfl (ro_load sc40 rfl (by first | exact Rd.pick 0 rfl (by first | exact Rd.own rfl | exact Rd.row rfl) | exact Rd.pick 1 rfl (by first | exact Rd.own rfl | exact Rd.row rfl) | exact Rd.pick 2 rfl (by first | exact Rd.own rfl | exact Rd.row rfl) | exact Rd.pick 3 rfl (by first | exact Rd.own rfl | exact Rd.row rfl) | exact Rd.pick 4 rfl (by first | exact Rd.own rfl | exact Rd.row rfl) | exact Rd.pick 5 rfl (by first | exact Rd.own rfl | exact Rd.row rfl) | exact Rd.pick 6 rfl (by first | exact Rd.own rfl | exact Rd.row rfl) | exact Rd.pick 7 rfl (by first | exact Rd.own rfl | exact Rd.row rfl))) rfl ?_
      refine ops_ro' rfl (ro_and rfl rfl (and32 hf1 (c := 1) (by decide) rfl)) rfl ?_
      refine ops_ro' rfl (ro_neq rfl rfl rfl) rfl ?_
      refine ops_nil ?_
      repeat (first | refine InBlock_normal ?_ | refine NoGoto_normal ?_ | refine Jump_normal ?_)
      refine Then_normal ?_
      refine wp_cond' rfl (fun hc3 => ?_) (fun hc3 => ?_)
      · try replace hc3 := of_decide_eq_true hc3
        refine wp_region' ?_
        refine ops_ro' rfl (ro_move rfl) rfl ?_
        refine ops_eff' rfl (eff_call Try.call63 rfl rfl (by first | exact Split.cons 0 rfl (Split.cons 0 rfl (Split.nil _)) | exact Split.cons 1 rfl (Split.cons 1 rfl (Split.nil _)) | exact Split.cons 2 rfl (Split.cons 2 rfl (Split.nil _)) | exact Split.cons 3 rfl (Split.cons 3 rfl (Split.nil _)) | exact Split.cons 4 rfl (Split.cons 4 rfl (Split.nil _)) | exact Split.cons 5 rfl (Split.cons 5 rfl (Split.nil _)) | exact Split.cons 6 rfl (Split.cons 6 rfl (Split.nil _)) | exact Split.cons 7 rfl (Split.cons 7 rfl (Split.nil _)) | exact Split.cons 0 rfl (Split.cons 1 rfl (Split.nil _)) | exact Split.cons 0 rfl (Split.cons 2 rfl (Split.nil _)) | exact Split.cons 0 rfl (Split.cons 3 rfl (Split.nil _)) | exact Split.cons 0 rfl (Split.cons 4 rfl (Split.nil _)) | exact Split.cons 0 rfl (Split.cons 5 rfl (Split.nil _)) | exact Split.cons 0 rfl (Split.cons 6 rfl (Split.nil _)) | exact Split.cons 1 rfl (Split.cons 0 rfl (Split.nil _)) | exact Split.cons 1 rfl (Split.cons 2 rfl (Split.nil _)) | exact Split.cons 1 rfl (Split.cons 3 rfl (Split.nil _)) | exact Split.cons 1 rfl (Split.cons 4 rfl (Split.nil _)) | exact Split.cons 1 rfl (Split.cons 5 rfl (Split.nil _)) | exact Split.cons 1 rfl (Split.cons 6 rfl (Split.nil _)) | exact Split.cons 2 rfl (Split.cons 0 rfl (Split.nil _)) | exact Split.cons 2 rfl (Split.cons 1 rfl (Split.nil _)) | exact Split.cons 2 rfl (Split.cons 3 rfl (Split.nil _)) | exact Split.cons 2 rfl (Split.cons 4 rfl (Split.nil _)) | exact Split.cons 2 rfl (Split.cons 5 rfl (Split.nil _)) | exact Split.cons 2 rfl (Split.cons 6 rfl (Split.nil _)) | exact Split.cons 3 rfl (Split.cons 0 rfl (Split.nil _)) | exact Split.cons 3 rfl (Split.cons 1 rfl (Split.nil _)) | exact Split.cons 3 rfl (Split.cons 2 rfl (Split.nil _)) | exact Split.cons 3 rfl (Split.cons 4 rfl (Split.nil _)) | exact Split.cons 3 rfl (Split.cons 5 rfl (Split.nil _)) | exact Split.cons 3 rfl (Split.cons 6 rfl (Split.nil _)) | exact Split.cons 4 rfl (Split.cons 0 rfl (Split.nil _)) | exact Split.cons 4 rfl (Split.cons 1 rfl (Split.nil _)) | exact Split.cons 4 rfl (Split.cons 2 rfl (Split.nil _)) | exact Split.cons 4 rfl (Split.cons 3 rfl (Split.nil _)) | exact Split.cons 4 rfl (Split.cons 5 rfl (Split.nil _)) | exact Split.cons 4 rfl (Split.cons 6 rfl (Split.nil _)) | exact Split.cons 5 rfl (Split.cons 0 rfl (Split.nil _)) | exact Split.cons 5 rfl (Split.cons 1 rfl (Split.nil _)) | exact Split.cons 5 rfl (Split.cons 2 rfl (Split.nil _)) | exact Split.cons 5 rfl (Split.cons 3 rfl (Split.nil _)) | exact Split.cons 5 rfl (Split.cons 4 rfl (Split.nil _)) | exact Split.cons 5 rfl (Split.cons 6 rfl (Split.nil _)) | exact Split.cons 6 rfl (Split.cons 0 rfl (Split.nil _)) | exact Split.cons 6 rfl (Split.cons 1 rfl (Split.nil _)) | exact Split.cons 6 rfl (Split.cons 2 rfl (Split.nil _)) | exact Split.cons 6 rfl (Split.cons 3 rfl (Split.nil _)) | exact Split.cons 6 rfl (Split.cons 4 rfl (Split.nil _)) | exact Split.cons 6 rfl (Split.cons 5 rfl (Split.nil _)) | exact Split.cons 7 rfl (Split.cons 0 rfl (Split.nil _)) | exact Split.cons 7 rfl (Split.cons 1 rfl (Split.nil _)) | exact Split.cons 7 rfl (Split.cons 2 rfl (Split.nil _)) | exact Split.cons 7 rfl (Split.cons 3 rfl (Split.nil _)) | exact Split.cons 7 rfl (Split.cons 4 rfl (Split.nil _)) | exact Split.cons 7 rfl (Split.cons 5 rfl (Split.nil _)) | exact Split.cons 7 rfl (Split.cons 6 rfl (Split.nil _))) (rU64_spec _ _ _ (r1) (by simp only [get_b, hb1]; omega) (by simp only [get_b, hb1]; exact hp1))) rfl ?_
        rintro _ H' ⟨_, ⟨rfl, rfl⟩, hH⟩
        simp only [List.cons_append, List.nil_append, List.eraseIdx_cons_zero, List.eraseIdx_cons_succ, List.set_cons_zero, List.set_cons_succ] at hH
        subst hH
        refine ops_ro' rfl (ro_fieldAddr fa54_1 rfl) rfl ?_
        refine ops_eff0 rfl ((by first | exact eff_store 0 sc52 rfl rfl rfl rfl (Nat.le_of_ble_eq_true rfl) (warm_zero _) | exact eff_store 1 sc52 rfl rfl rfl rfl (Nat.le_of_ble_eq_true rfl) (warm_zero _) | exact eff_store 2 sc52 rfl rfl rfl rfl (Nat.le_of_ble_eq_true rfl) (warm_zero _) | exact eff_store 3 sc52 rfl rfl rfl rfl (Nat.le_of_ble_eq_true rfl) (warm_zero _) | exact eff_store 4 sc52 rfl rfl rfl rfl (Nat.le_of_ble_eq_true rfl) (warm_zero _) | exact eff_store 5 sc52 rfl rfl rfl rfl (Nat.le_of_ble_eq_true rfl) (warm_zero _) | exact eff_store 6 sc52 rfl rfl rfl rfl (Nat.le_of_ble_eq_true rfl) (warm_zero _) | exact eff_store 7 sc52 rfl rfl rfl rfl (Nat.le_of_ble_eq_true rfl) (warm_zero _))) rfl ?_
        rintro _ _ rfl
        refine ops_nil ?_
        repeat (first | refine InBlock_normal ?_ | refine NoGoto_normal ?_ | refine Jump_normal ?_)
        refine Then_normal ?_
        refine ⟨Has.cons rfl (Has.cons rfl (Has.cons rfl (Has.nil _))), (r1.get 8).1, { x1 with s := ((r1).get 8).2 }, by rw [R.s1, if_pos (by simp only; omega)], (by simp only [get_b, hb1]), (by have := get_pos r1 8 (by rw [hb1]; exact hp1); rwa [hb1] at this), rfl, rfl⟩
      · try replace hc3 := of_decide_eq_false hc3
        refine wp_skip' ?_
        repeat (first | refine InBlock_normal ?_ | refine NoGoto_normal ?_ | refine Jump_normal ?_)
        refine Then_normal ?_
        refine ⟨Has.cons rfl (Has.cons rfl (Has.cons rfl (Has.nil _))), r1, x1, by rw [R.s1, if_neg (by simp only; omega)], hb1, hp1, rfl, rfl⟩
    rintro Γ H ⟨hΓ, r3, x3, he3, hb3, hp3, hf3, rfl⟩
    refine wp_has hΓ ?_
    have hf3 : x3.f < 4294967296 := by rw [hf3]; exact hf1
    refine wp_cut (fun Γ H => Has Γ [(0, .pointer (some ⟨pr, 0, none⟩)), (2, .pointer (some ⟨b2, 0, none⟩)), (3, .pointer (some ⟨b3, 0, none⟩))] ∧ ∃ r' x', (r', x') = R.s2 (r3, x3) ∧ r'.b = r.b ∧ r'.pos ≤ r.b.length ∧ x'.f = x3.f ∧ H = rd pr p c (r') ++ [own b3 (.cells (x').cs.toArray 54 (0, 0)), own b2 (.cells At.zero.cs.toArray 54 (0, 0))]) ?_ ?_
    · refine wp_seq' ?_
      refine wp_region' ?_
      refine ops_ro' rfl (ro_fieldAddr fa54_0 rfl) rfl ?_
      refine ops_ro' rfl (ro_load sc40 rfl (by first | exact Rd.pick 0 rfl (by first | exact Rd.own rfl | exact Rd.row rfl) | exact Rd.pick 1 rfl (by first | exact Rd.own rfl | exact Rd.row rfl) | exact Rd.pick 2 rfl (by first | exact Rd.own rfl | exact Rd.row rfl) | exact Rd.pick 3 rfl (by first | exact Rd.own rfl | exact Rd.row rfl) | exact Rd.pick 4 rfl (by first | exact Rd.own rfl | exact Rd.row rfl) | exact Rd.pick 5 rfl (by first | exact Rd.own rfl | exact Rd.row rfl) | exact Rd.pick 6 rfl (by first | exact Rd.own rfl | exact Rd.row rfl) | exact Rd.pick 7 rfl (by first | exact Rd.own rfl | exact Rd.row rfl))) rfl ?_
      refine ops_ro' rfl (ro_and rfl rfl (and32 hf3 (c := 2) (by decide) rfl)) rfl ?_
      refine ops_ro' rfl (ro_neq rfl rfl rfl) rfl ?_
      refine ops_nil ?_
      repeat (first | refine InBlock_normal ?_ | refine NoGoto_normal ?_ | refine Jump_normal ?_)
      refine Then_normal ?_
      refine wp_cond' rfl (fun hc4 => ?_) (fun hc4 => ?_)
      · try replace hc4 := of_decide_eq_true hc4
        refine wp_seq' ?_
        refine wp_region' ?_
        refine ops_ro' rfl (ro_move rfl) rfl ?_
        refine ops_eff' rfl (eff_call Try.call60 rfl rfl (by first | exact Split.cons 0 rfl (Split.cons 0 rfl (Split.nil _)) | exact Split.cons 1 rfl (Split.cons 1 rfl (Split.nil _)) | exact Split.cons 2 rfl (Split.cons 2 rfl (Split.nil _)) | exact Split.cons 3 rfl (Split.cons 3 rfl (Split.nil _)) | exact Split.cons 4 rfl (Split.cons 4 rfl (Split.nil _)) | exact Split.cons 5 rfl (Split.cons 5 rfl (Split.nil _)) | exact Split.cons 6 rfl (Split.cons 6 rfl (Split.nil _)) | exact Split.cons 7 rfl (Split.cons 7 rfl (Split.nil _)) | exact Split.cons 0 rfl (Split.cons 1 rfl (Split.nil _)) | exact Split.cons 0 rfl (Split.cons 2 rfl (Split.nil _)) | exact Split.cons 0 rfl (Split.cons 3 rfl (Split.nil _)) | exact Split.cons 0 rfl (Split.cons 4 rfl (Split.nil _)) | exact Split.cons 0 rfl (Split.cons 5 rfl (Split.nil _)) | exact Split.cons 0 rfl (Split.cons 6 rfl (Split.nil _)) | exact Split.cons 1 rfl (Split.cons 0 rfl (Split.nil _)) | exact Split.cons 1 rfl (Split.cons 2 rfl (Split.nil _)) | exact Split.cons 1 rfl (Split.cons 3 rfl (Split.nil _)) | exact Split.cons 1 rfl (Split.cons 4 rfl (Split.nil _)) | exact Split.cons 1 rfl (Split.cons 5 rfl (Split.nil _)) | exact Split.cons 1 rfl (Split.cons 6 rfl (Split.nil _)) | exact Split.cons 2 rfl (Split.cons 0 rfl (Split.nil _)) | exact Split.cons 2 rfl (Split.cons 1 rfl (Split.nil _)) | exact Split.cons 2 rfl (Split.cons 3 rfl (Split.nil _)) | exact Split.cons 2 rfl (Split.cons 4 rfl (Split.nil _)) | exact Split.cons 2 rfl (Split.cons 5 rfl (Split.nil _)) | exact Split.cons 2 rfl (Split.cons 6 rfl (Split.nil _)) | exact Split.cons 3 rfl (Split.cons 0 rfl (Split.nil _)) | exact Split.cons 3 rfl (Split.cons 1 rfl (Split.nil _)) | exact Split.cons 3 rfl (Split.cons 2 rfl (Split.nil _)) | exact Split.cons 3 rfl (Split.cons 4 rfl (Split.nil _)) | exact Split.cons 3 rfl (Split.cons 5 rfl (Split.nil _)) | exact Split.cons 3 rfl (Split.cons 6 rfl (Split.nil _)) | exact Split.cons 4 rfl (Split.cons 0 rfl (Split.nil _)) | exact Split.cons 4 rfl (Split.cons 1 rfl (Split.nil _)) | exact Split.cons 4 rfl (Split.cons 2 rfl (Split.nil _)) | exact Split.cons 4 rfl (Split.cons 3 rfl (Split.nil _)) | exact Split.cons 4 rfl (Split.cons 5 rfl (Split.nil _)) | exact Split.cons 4 rfl (Split.cons 6 rfl (Split.nil _)) | exact Split.cons 5 rfl (Split.cons 0 rfl (Split.nil _)) | exact Split.cons 5 rfl (Split.cons 1 rfl (Split.nil _)) | exact Split.cons 5 rfl (Split.cons 2 rfl (Split.nil _)) | exact Split.cons 5 rfl (Split.cons 3 rfl (Split.nil _)) | exact Split.cons 5 rfl (Split.cons 4 rfl (Split.nil _)) | exact Split.cons 5 rfl (Split.cons 6 rfl (Split.nil _)) | exact Split.cons 6 rfl (Split.cons 0 rfl (Split.nil _)) | exact Split.cons 6 rfl (Split.cons 1 rfl (Split.nil _)) | exact Split.cons 6 rfl (Split.cons 2 rfl (Split.nil _)) | exact Split.cons 6 rfl (Split.cons 3 rfl (Split.nil _)) | exact Split.cons 6 rfl (Split.cons 4 rfl (Split.nil _)) | exact Split.cons 6 rfl (Split.cons 5 rfl (Split.nil _)) | exact Split.cons 7 rfl (Split.cons 0 rfl (Split.nil _)) | exact Split.cons 7 rfl (Split.cons 1 rfl (Split.nil _)) | exact Split.cons 7 rfl (Split.cons 2 rfl (Split.nil _)) | exact Split.cons 7 rfl (Split.cons 3 rfl (Split.nil _)) | exact Split.cons 7 rfl (Split.cons 4 rfl (Split.nil _)) | exact Split.cons 7 rfl (Split.cons 5 rfl (Split.nil _)) | exact Split.cons 7 rfl (Split.cons 6 rfl (Split.nil _))) (rU32_spec _ _ _ (r3) (by simp only [get_b, hb3]; omega) (by simp only [get_b, hb3]; exact hp3))) rfl ?_
        rintro _ H' ⟨_, ⟨rfl, rfl⟩, hH⟩
        simp only [List.cons_append, List.nil_append, List.eraseIdx_cons_zero, List.eraseIdx_cons_succ, List.set_cons_zero, List.set_cons_succ] at hH
        subst hH
        refine ops_ro' rfl (ro_fieldAddr fa54_2 rfl) rfl ?_
        refine ops_eff0 rfl ((by first | exact eff_store 0 sc40 rfl rfl rfl rfl (Nat.le_of_ble_eq_true rfl) (warm_zero _) | exact eff_store 1 sc40 rfl rfl rfl rfl (Nat.le_of_ble_eq_true rfl) (warm_zero _) | exact eff_store 2 sc40 rfl rfl rfl rfl (Nat.le_of_ble_eq_true rfl) (warm_zero _) | exact eff_store 3 sc40 rfl rfl rfl rfl (Nat.le_of_ble_eq_true rfl) (warm_zero _) | exact eff_store 4 sc40 rfl rfl rfl rfl (Nat.le_of_ble_eq_true rfl) (warm_zero _) | exact eff_store 5 sc40 rfl rfl rfl rfl (Nat.le_of_ble_eq_true rfl) (warm_zero _) | exact eff_store 6 sc40 rfl rfl rfl rfl (Nat.le_of_ble_eq_true rfl) (warm_zero _) | exact eff_store 7 sc40 rfl rfl rfl rfl (Nat.le_of_ble_eq_true rfl) (warm_zero _))) rfl ?_
        rintro _ _ rfl
        refine ops_nil ?_
        repeat (first | refine InBlock_normal ?_ | refine NoGoto_normal ?_ | refine Jump_normal ?_)
        refine Then_normal ?_
        refine wp_region' ?_
        refine ops_ro' rfl (ro_move rfl) rfl ?_
        refine ops_eff' rfl (eff_call Try.call60 rfl rfl (by first | exact Split.cons 0 rfl (Split.cons 0 rfl (Split.nil _)) | exact Split.cons 1 rfl (Split.cons 1 rfl (Split.nil _)) | exact Split.cons 2 rfl (Split.cons 2 rfl (Split.nil _)) | exact Split.cons 3 rfl (Split.cons 3 rfl (Split.nil _)) | exact Split.cons 4 rfl (Split.cons 4 rfl (Split.nil _)) | exact Split.cons 5 rfl (Split.cons 5 rfl (Split.nil _)) | exact Split.cons 6 rfl (Split.cons 6 rfl (Split.nil _)) | exact Split.cons 7 rfl (Split.cons 7 rfl (Split.nil _)) | exact Split.cons 0 rfl (Split.cons 1 rfl (Split.nil _)) | exact Split.cons 0 rfl (Split.cons 2 rfl (Split.nil _)) | exact Split.cons 0 rfl (Split.cons 3 rfl (Split.nil _)) | exact Split.cons 0 rfl (Split.cons 4 rfl (Split.nil _)) | exact Split.cons 0 rfl (Split.cons 5 rfl (Split.nil _)) | exact Split.cons 0 rfl (Split.cons 6 rfl (Split.nil _)) | exact Split.cons 1 rfl (Split.cons 0 rfl (Split.nil _)) | exact Split.cons 1 rfl (Split.cons 2 rfl (Split.nil _)) | exact Split.cons 1 rfl (Split.cons 3 rfl (Split.nil _)) | exact Split.cons 1 rfl (Split.cons 4 rfl (Split.nil _)) | exact Split.cons 1 rfl (Split.cons 5 rfl (Split.nil _)) | exact Split.cons 1 rfl (Split.cons 6 rfl (Split.nil _)) | exact Split.cons 2 rfl (Split.cons 0 rfl (Split.nil _)) | exact Split.cons 2 rfl (Split.cons 1 rfl (Split.nil _)) | exact Split.cons 2 rfl (Split.cons 3 rfl (Split.nil _)) | exact Split.cons 2 rfl (Split.cons 4 rfl (Split.nil _)) | exact Split.cons 2 rfl (Split.cons 5 rfl (Split.nil _)) | exact Split.cons 2 rfl (Split.cons 6 rfl (Split.nil _)) | exact Split.cons 3 rfl (Split.cons 0 rfl (Split.nil _)) | exact Split.cons 3 rfl (Split.cons 1 rfl (Split.nil _)) | exact Split.cons 3 rfl (Split.cons 2 rfl (Split.nil _)) | exact Split.cons 3 rfl (Split.cons 4 rfl (Split.nil _)) | exact Split.cons 3 rfl (Split.cons 5 rfl (Split.nil _)) | exact Split.cons 3 rfl (Split.cons 6 rfl (Split.nil _)) | exact Split.cons 4 rfl (Split.cons 0 rfl (Split.nil _)) | exact Split.cons 4 rfl (Split.cons 1 rfl (Split.nil _)) | exact Split.cons 4 rfl (Split.cons 2 rfl (Split.nil _)) | exact Split.cons 4 rfl (Split.cons 3 rfl (Split.nil _)) | exact Split.cons 4 rfl (Split.cons 5 rfl (Split.nil _)) | exact Split.cons 4 rfl (Split.cons 6 rfl (Split.nil _)) | exact Split.cons 5 rfl (Split.cons 0 rfl (Split.nil _)) | exact Split.cons 5 rfl (Split.cons 1 rfl (Split.nil _)) | exact Split.cons 5 rfl (Split.cons 2 rfl (Split.nil _)) | exact Split.cons 5 rfl (Split.cons 3 rfl (Split.nil _)) | exact Split.cons 5 rfl (Split.cons 4 rfl (Split.nil _)) | exact Split.cons 5 rfl (Split.cons 6 rfl (Split.nil _)) | exact Split.cons 6 rfl (Split.cons 0 rfl (Split.nil _)) | exact Split.cons 6 rfl (Split.cons 1 rfl (Split.nil _)) | exact Split.cons 6 rfl (Split.cons 2 rfl (Split.nil _)) | exact Split.cons 6 rfl (Split.cons 3 rfl (Split.nil _)) | exact Split.cons 6 rfl (Split.cons 4 rfl (Split.nil _)) | exact Split.cons 6 rfl (Split.cons 5 rfl (Split.nil _)) | exact Split.cons 7 rfl (Split.cons 0 rfl (Split.nil _)) | exact Split.cons 7 rfl (Split.cons 1 rfl (Split.nil _)) | exact Split.cons 7 rfl (Split.cons 2 rfl (Split.nil _)) | exact Split.cons 7 rfl (Split.cons 3 rfl (Split.nil _)) | exact Split.cons 7 rfl (Split.cons 4 rfl (Split.nil _)) | exact Split.cons 7 rfl (Split.cons 5 rfl (Split.nil _)) | exact Split.cons 7 rfl (Split.cons 6 rfl (Split.nil _))) (rU32_spec _ _ _ (((r3).get 4).1) (by simp only [get_b, hb3]; omega) (by simp only [get_b, hb3]; have := get_pos r3 4 (by rw [hb3]; exact hp3); rwa [hb3] at this))) rfl ?_
        rintro _ H' ⟨_, ⟨rfl, rfl⟩, hH⟩
        simp only [List.cons_append, List.nil_append, List.eraseIdx_cons_zero, List.eraseIdx_cons_succ, List.set_cons_zero, List.set_cons_succ] at hH
        subst hH
        refine ops_ro' rfl (ro_fieldAddr fa54_3 rfl) rfl ?_
        refine ops_eff0 rfl ((by first | exact eff_store 0 sc40 rfl rfl rfl rfl (Nat.le_of_ble_eq_true rfl) (warm_zero _) | exact eff_store 1 sc40 rfl rfl rfl rfl (Nat.le_of_ble_eq_true rfl) (warm_zero _) | exact eff_store 2 sc40 rfl rfl rfl rfl (Nat.le_of_ble_eq_true rfl) (warm_zero _) | exact eff_store 3 sc40 rfl rfl rfl rfl (Nat.le_of_ble_eq_true rfl) (warm_zero _) | exact eff_store 4 sc40 rfl rfl rfl rfl (Nat.le_of_ble_eq_true rfl) (warm_zero _) | exact eff_store 5 sc40 rfl rfl rfl rfl (Nat.le_of_ble_eq_true rfl) (warm_zero _) | exact eff_store 6 sc40 rfl rfl rfl rfl (Nat.le_of_ble_eq_true rfl) (warm_zero _) | exact eff_store 7 sc40 rfl rfl rfl rfl (Nat.le_of_ble_eq_true rfl) (warm_zero _))) rfl ?_
        rintro _ _ rfl
        refine ops_nil ?_
        repeat (first | refine InBlock_normal ?_ | refine NoGoto_normal ?_ | refine Jump_normal ?_)
        refine Then_normal ?_
        refine ⟨Has.cons rfl (Has.cons rfl (Has.cons rfl (Has.nil _))), ((r3.get 4).1.get 4).1, { x3 with u := ((r3).get 4).2, g := ((((r3).get 4).1).get 4).2 }, by rw [R.s2, if_pos (by simp only; omega)], (by simp only [get_b, hb3]), (by have h1 := get_pos r3 4 (by rw [hb3]; exact hp3); have := get_pos (r3.get 4).1 4 (by rw [get_b]; exact h1); rwa [get_b, hb3] at this), rfl, rfl⟩
      · try replace hc4 := of_decide_eq_false hc4
        refine wp_skip' ?_
        repeat (first | refine InBlock_normal ?_ | refine NoGoto_normal ?_ | refine Jump_normal ?_)
        refine Then_normal ?_
        refine ⟨Has.cons rfl (Has.cons rfl (Has.cons rfl (Has.nil _))), r3, x3, by rw [R.s2, if_neg (by simp only; omega)], hb3, hp3, rfl, rfl⟩
    rintro Γ H ⟨hΓ, r4, x4, he4, hb4, hp4, hf4, rfl⟩
    refine wp_has hΓ ?_
    have hf4 : x4.f < 4294967296 := by rw [hf4]; exact hf3
    refine wp_cut (fun Γ H => Has Γ [(0, .pointer (some ⟨pr, 0, none⟩)), (2, .pointer (some ⟨b2, 0, none⟩)), (3, .pointer (some ⟨b3, 0, none⟩))] ∧ ∃ r' x', (r', x') = R.s3 (r4, x4) ∧ r'.b = r.b ∧ r'.pos ≤ r.b.length ∧ x'.f = x4.f ∧ H = rd pr p c (r') ++ [own b3 (.cells (x').cs.toArray 54 (0, 0)), own b2 (.cells At.zero.cs.toArray 54 (0, 0))]) ?_ ?_
    · refine wp_seq' ?_
      refine wp_region' ?_
      refine ops_ro' rfl (ro_fieldAddr fa54_0 rfl) rfl ?_
      refine ops_ro' rfl (ro_load sc40 rfl (by first | exact Rd.pick 0 rfl (by first | exact Rd.own rfl | exact Rd.row rfl) | exact Rd.pick 1 rfl (by first | exact Rd.own rfl | exact Rd.row rfl) | exact Rd.pick 2 rfl (by first | exact Rd.own rfl | exact Rd.row rfl) | exact Rd.pick 3 rfl (by first | exact Rd.own rfl | exact Rd.row rfl) | exact Rd.pick 4 rfl (by first | exact Rd.own rfl | exact Rd.row rfl) | exact Rd.pick 5 rfl (by first | exact Rd.own rfl | exact Rd.row rfl) | exact Rd.pick 6 rfl (by first | exact Rd.own rfl | exact Rd.row rfl) | exact Rd.pick 7 rfl (by first | exact Rd.own rfl | exact Rd.row rfl))) rfl ?_
      refine ops_ro' rfl (ro_and rfl rfl (and32 hf4 (c := 4) (by decide) rfl)) rfl ?_
      refine ops_ro' rfl (ro_neq rfl rfl rfl) rfl ?_
      refine ops_nil ?_
      repeat (first | refine InBlock_normal ?_ | refine NoGoto_normal ?_ | refine Jump_normal ?_)
      refine Then_normal ?_
      refine wp_cond' rfl (fun hc5 => ?_) (fun hc5 => ?_)
      · try replace hc5 := of_decide_eq_true hc5
        refine wp_region' ?_
        refine ops_ro' rfl (ro_move rfl) rfl ?_
        refine ops_eff' rfl (eff_call Try.call60 rfl rfl (by first | exact Split.cons 0 rfl (Split.cons 0 rfl (Split.nil _)) | exact Split.cons 1 rfl (Split.cons 1 rfl (Split.nil _)) | exact Split.cons 2 rfl (Split.cons 2 rfl (Split.nil _)) | exact Split.cons 3 rfl (Split.cons 3 rfl (Split.nil _)) | exact Split.cons 4 rfl (Split.cons 4 rfl (Split.nil _)) | exact Split.cons 5 rfl (Split.cons 5 rfl (Split.nil _)) | exact Split.cons 6 rfl (Split.cons 6 rfl (Split.nil _)) | exact Split.cons 7 rfl (Split.cons 7 rfl (Split.nil _)) | exact Split.cons 0 rfl (Split.cons 1 rfl (Split.nil _)) | exact Split.cons 0 rfl (Split.cons 2 rfl (Split.nil _)) | exact Split.cons 0 rfl (Split.cons 3 rfl (Split.nil _)) | exact Split.cons 0 rfl (Split.cons 4 rfl (Split.nil _)) | exact Split.cons 0 rfl (Split.cons 5 rfl (Split.nil _)) | exact Split.cons 0 rfl (Split.cons 6 rfl (Split.nil _)) | exact Split.cons 1 rfl (Split.cons 0 rfl (Split.nil _)) | exact Split.cons 1 rfl (Split.cons 2 rfl (Split.nil _)) | exact Split.cons 1 rfl (Split.cons 3 rfl (Split.nil _)) | exact Split.cons 1 rfl (Split.cons 4 rfl (Split.nil _)) | exact Split.cons 1 rfl (Split.cons 5 rfl (Split.nil _)) | exact Split.cons 1 rfl (Split.cons 6 rfl (Split.nil _)) | exact Split.cons 2 rfl (Split.cons 0 rfl (Split.nil _)) | exact Split.cons 2 rfl (Split.cons 1 rfl (Split.nil _)) | exact Split.cons 2 rfl (Split.cons 3 rfl (Split.nil _)) | exact Split.cons 2 rfl (Split.cons 4 rfl (Split.nil _)) | exact Split.cons 2 rfl (Split.cons 5 rfl (Split.nil _)) | exact Split.cons 2 rfl (Split.cons 6 rfl (Split.nil _)) | exact Split.cons 3 rfl (Split.cons 0 rfl (Split.nil _)) | exact Split.cons 3 rfl (Split.cons 1 rfl (Split.nil _)) | exact Split.cons 3 rfl (Split.cons 2 rfl (Split.nil _)) | exact Split.cons 3 rfl (Split.cons 4 rfl (Split.nil _)) | exact Split.cons 3 rfl (Split.cons 5 rfl (Split.nil _)) | exact Split.cons 3 rfl (Split.cons 6 rfl (Split.nil _)) | exact Split.cons 4 rfl (Split.cons 0 rfl (Split.nil _)) | exact Split.cons 4 rfl (Split.cons 1 rfl (Split.nil _)) | exact Split.cons 4 rfl (Split.cons 2 rfl (Split.nil _)) | exact Split.cons 4 rfl (Split.cons 3 rfl (Split.nil _)) | exact Split.cons 4 rfl (Split.cons 5 rfl (Split.nil _)) | exact Split.cons 4 rfl (Split.cons 6 rfl (Split.nil _)) | exact Split.cons 5 rfl (Split.cons 0 rfl (Split.nil _)) | exact Split.cons 5 rfl (Split.cons 1 rfl (Split.nil _)) | exact Split.cons 5 rfl (Split.cons 2 rfl (Split.nil _)) | exact Split.cons 5 rfl (Split.cons 3 rfl (Split.nil _)) | exact Split.cons 5 rfl (Split.cons 4 rfl (Split.nil _)) | exact Split.cons 5 rfl (Split.cons 6 rfl (Split.nil _)) | exact Split.cons 6 rfl (Split.cons 0 rfl (Split.nil _)) | exact Split.cons 6 rfl (Split.cons 1 rfl (Split.nil _)) | exact Split.cons 6 rfl (Split.cons 2 rfl (Split.nil _)) | exact Split.cons 6 rfl (Split.cons 3 rfl (Split.nil _)) | exact Split.cons 6 rfl (Split.cons 4 rfl (Split.nil _)) | exact Split.cons 6 rfl (Split.cons 5 rfl (Split.nil _)) | exact Split.cons 7 rfl (Split.cons 0 rfl (Split.nil _)) | exact Split.cons 7 rfl (Split.cons 1 rfl (Split.nil _)) | exact Split.cons 7 rfl (Split.cons 2 rfl (Split.nil _)) | exact Split.cons 7 rfl (Split.cons 3 rfl (Split.nil _)) | exact Split.cons 7 rfl (Split.cons 4 rfl (Split.nil _)) | exact Split.cons 7 rfl (Split.cons 5 rfl (Split.nil _)) | exact Split.cons 7 rfl (Split.cons 6 rfl (Split.nil _))) (rU32_spec _ _ _ (r4) (by simp only [get_b, hb4]; omega) (by simp only [get_b, hb4]; exact hp4))) rfl ?_
        rintro _ H' ⟨_, ⟨rfl, rfl⟩, hH⟩
        simp only [List.cons_append, List.nil_append, List.eraseIdx_cons_zero, List.eraseIdx_cons_succ, List.set_cons_zero, List.set_cons_succ] at hH
        subst hH
        refine ops_ro' rfl (ro_fieldAddr fa54_4 rfl) rfl ?_
        refine ops_eff0 rfl ((by first | exact eff_store 0 sc40 rfl rfl rfl rfl (Nat.le_of_ble_eq_true rfl) (warm_zero _) | exact eff_store 1 sc40 rfl rfl rfl rfl (Nat.le_of_ble_eq_true rfl) (warm_zero _) | exact eff_store 2 sc40 rfl rfl rfl rfl (Nat.le_of_ble_eq_true rfl) (warm_zero _) | exact eff_store 3 sc40 rfl rfl rfl rfl (Nat.le_of_ble_eq_true rfl) (warm_zero _) | exact eff_store 4 sc40 rfl rfl rfl rfl (Nat.le_of_ble_eq_true rfl) (warm_zero _) | exact eff_store 5 sc40 rfl rfl rfl rfl (Nat.le_of_ble_eq_true rfl) (warm_zero _) | exact eff_store 6 sc40 rfl rfl rfl rfl (Nat.le_of_ble_eq_true rfl) (warm_zero _) | exact eff_store 7 sc40 rfl rfl rfl rfl (Nat.le_of_ble_eq_true rfl) (warm_zero _))) rfl ?_
        rintro _ _ rfl
        refine ops_nil ?_
        repeat (first | refine InBlock_normal ?_ | refine NoGoto_normal ?_ | refine Jump_normal ?_)
        refine Then_normal ?_
        refine ⟨Has.cons rfl (Has.cons rfl (Has.cons rfl (Has.nil _))), (r4.get 4).1, { x4 with m := ((r4).get 4).2 }, by rw [R.s3, if_pos (by simp only; omega)], (by simp only [get_b, hb4]), (by have := get_pos r4 4 (by rw [hb4]; exact hp4); rwa [hb4] at this), rfl, rfl⟩
      · try replace hc5 := of_decide_eq_false hc5
        refine wp_skip' ?_
        repeat (first | refine InBlock_normal ?_ | refine NoGoto_normal ?_ | refine Jump_normal ?_)
        refine Then_normal ?_
        refine ⟨Has.cons rfl (Has.cons rfl (Has.cons rfl (Has.nil _))), r4, x4, by rw [R.s3, if_neg (by simp only; omega)], hb4, hp4, rfl, rfl⟩
    rintro Γ H ⟨hΓ, r5, x5, he5, hb5, hp5, hf5, rfl⟩
    refine wp_has hΓ ?_
    have hf5 : x5.f < 4294967296 := by rw [hf5]; exact hf4
    refine wp_cut (fun Γ H => Has Γ [(0, .pointer (some ⟨pr, 0, none⟩)), (2, .pointer (some ⟨b2, 0, none⟩)), (3, .pointer (some ⟨b3, 0, none⟩))] ∧ ∃ r' x', (r', x') = R.s4 (r5, x5) ∧ r'.b = r.b ∧ r'.pos ≤ r.b.length ∧ x'.f = x5.f ∧ H = rd pr p c (r') ++ [own b3 (.cells (x').cs.toArray 54 (0, 0)), own b2 (.cells At.zero.cs.toArray 54 (0, 0))]) ?_ ?_
    · refine wp_seq' ?_
      refine wp_region' ?_
      refine ops_ro' rfl (ro_fieldAddr fa54_0 rfl) rfl ?_
      refine ops_ro' rfl (ro_load sc40 rfl (by first | exact Rd.pick 0 rfl (by first | exact Rd.own rfl | exact Rd.row rfl) | exact Rd.pick 1 rfl (by first | exact Rd.own rfl | exact Rd.row rfl) | exact Rd.pick 2 rfl (by first | exact Rd.own rfl | exact Rd.row rfl) | exact Rd.pick 3 rfl (by first | exact Rd.own rfl | exact Rd.row rfl) | exact Rd.pick 4 rfl (by first | exact Rd.own rfl | exact Rd.row rfl) | exact Rd.pick 5 rfl (by first | exact Rd.own rfl | exact Rd.row rfl) | exact Rd.pick 6 rfl (by first | exact Rd.own rfl | exact Rd.row rfl) | exact Rd.pick 7 rfl (by first | exact Rd.own rfl | exact Rd.row rfl))) rfl ?_
      refine ops_ro' rfl (ro_and rfl rfl (and32 hf5 (c := 8) (by decide) rfl)) rfl ?_
      refine ops_ro' rfl (ro_neq rfl rfl rfl) rfl ?_
      refine ops_nil ?_
      repeat (first | refine InBlock_normal ?_ | refine NoGoto_normal ?_ | refine Jump_normal ?_)
      refine Then_normal ?_
      refine wp_cond' rfl (fun hc6 => ?_) (fun hc6 => ?_)
      · try replace hc6 := of_decide_eq_true hc6
        refine wp_seq' ?_
        refine wp_region' ?_
        refine ops_ro' rfl (ro_move rfl) rfl ?_
        refine ops_eff' rfl (eff_call Try.call60 rfl rfl (by first | exact Split.cons 0 rfl (Split.cons 0 rfl (Split.nil _)) | exact Split.cons 1 rfl (Split.cons 1 rfl (Split.nil _)) | exact Split.cons 2 rfl (Split.cons 2 rfl (Split.nil _)) | exact Split.cons 3 rfl (Split.cons 3 rfl (Split.nil _)) | exact Split.cons 4 rfl (Split.cons 4 rfl (Split.nil _)) | exact Split.cons 5 rfl (Split.cons 5 rfl (Split.nil _)) | exact Split.cons 6 rfl (Split.cons 6 rfl (Split.nil _)) | exact Split.cons 7 rfl (Split.cons 7 rfl (Split.nil _)) | exact Split.cons 0 rfl (Split.cons 1 rfl (Split.nil _)) | exact Split.cons 0 rfl (Split.cons 2 rfl (Split.nil _)) | exact Split.cons 0 rfl (Split.cons 3 rfl (Split.nil _)) | exact Split.cons 0 rfl (Split.cons 4 rfl (Split.nil _)) | exact Split.cons 0 rfl (Split.cons 5 rfl (Split.nil _)) | exact Split.cons 0 rfl (Split.cons 6 rfl (Split.nil _)) | exact Split.cons 1 rfl (Split.cons 0 rfl (Split.nil _)) | exact Split.cons 1 rfl (Split.cons 2 rfl (Split.nil _)) | exact Split.cons 1 rfl (Split.cons 3 rfl (Split.nil _)) | exact Split.cons 1 rfl (Split.cons 4 rfl (Split.nil _)) | exact Split.cons 1 rfl (Split.cons 5 rfl (Split.nil _)) | exact Split.cons 1 rfl (Split.cons 6 rfl (Split.nil _)) | exact Split.cons 2 rfl (Split.cons 0 rfl (Split.nil _)) | exact Split.cons 2 rfl (Split.cons 1 rfl (Split.nil _)) | exact Split.cons 2 rfl (Split.cons 3 rfl (Split.nil _)) | exact Split.cons 2 rfl (Split.cons 4 rfl (Split.nil _)) | exact Split.cons 2 rfl (Split.cons 5 rfl (Split.nil _)) | exact Split.cons 2 rfl (Split.cons 6 rfl (Split.nil _)) | exact Split.cons 3 rfl (Split.cons 0 rfl (Split.nil _)) | exact Split.cons 3 rfl (Split.cons 1 rfl (Split.nil _)) | exact Split.cons 3 rfl (Split.cons 2 rfl (Split.nil _)) | exact Split.cons 3 rfl (Split.cons 4 rfl (Split.nil _)) | exact Split.cons 3 rfl (Split.cons 5 rfl (Split.nil _)) | exact Split.cons 3 rfl (Split.cons 6 rfl (Split.nil _)) | exact Split.cons 4 rfl (Split.cons 0 rfl (Split.nil _)) | exact Split.cons 4 rfl (Split.cons 1 rfl (Split.nil _)) | exact Split.cons 4 rfl (Split.cons 2 rfl (Split.nil _)) | exact Split.cons 4 rfl (Split.cons 3 rfl (Split.nil _)) | exact Split.cons 4 rfl (Split.cons 5 rfl (Split.nil _)) | exact Split.cons 4 rfl (Split.cons 6 rfl (Split.nil _)) | exact Split.cons 5 rfl (Split.cons 0 rfl (Split.nil _)) | exact Split.cons 5 rfl (Split.cons 1 rfl (Split.nil _)) | exact Split.cons 5 rfl (Split.cons 2 rfl (Split.nil _)) | exact Split.cons 5 rfl (Split.cons 3 rfl (Split.nil _)) | exact Split.cons 5 rfl (Split.cons 4 rfl (Split.nil _)) | exact Split.cons 5 rfl (Split.cons 6 rfl (Split.nil _)) | exact Split.cons 6 rfl (Split.cons 0 rfl (Split.nil _)) | exact Split.cons 6 rfl (Split.cons 1 rfl (Split.nil _)) | exact Split.cons 6 rfl (Split.cons 2 rfl (Split.nil _)) | exact Split.cons 6 rfl (Split.cons 3 rfl (Split.nil _)) | exact Split.cons 6 rfl (Split.cons 4 rfl (Split.nil _)) | exact Split.cons 6 rfl (Split.cons 5 rfl (Split.nil _)) | exact Split.cons 7 rfl (Split.cons 0 rfl (Split.nil _)) | exact Split.cons 7 rfl (Split.cons 1 rfl (Split.nil _)) | exact Split.cons 7 rfl (Split.cons 2 rfl (Split.nil _)) | exact Split.cons 7 rfl (Split.cons 3 rfl (Split.nil _)) | exact Split.cons 7 rfl (Split.cons 4 rfl (Split.nil _)) | exact Split.cons 7 rfl (Split.cons 5 rfl (Split.nil _)) | exact Split.cons 7 rfl (Split.cons 6 rfl (Split.nil _))) (rU32_spec _ _ _ (r5) (by simp only [get_b, hb5]; omega) (by simp only [get_b, hb5]; exact hp5))) rfl ?_
        rintro _ H' ⟨_, ⟨rfl, rfl⟩, hH⟩
        simp only [List.cons_append, List.nil_append, List.eraseIdx_cons_zero, List.eraseIdx_cons_succ, List.set_cons_zero, List.set_cons_succ] at hH
        subst hH
        refine ops_ro' rfl (ro_fieldAddr fa54_5 rfl) rfl ?_
        refine ops_eff0 rfl ((by first | exact eff_store 0 sc40 rfl rfl rfl rfl (Nat.le_of_ble_eq_true rfl) (warm_zero _) | exact eff_store 1 sc40 rfl rfl rfl rfl (Nat.le_of_ble_eq_true rfl) (warm_zero _) | exact eff_store 2 sc40 rfl rfl rfl rfl (Nat.le_of_ble_eq_true rfl) (warm_zero _) | exact eff_store 3 sc40 rfl rfl rfl rfl (Nat.le_of_ble_eq_true rfl) (warm_zero _) | exact eff_store 4 sc40 rfl rfl rfl rfl (Nat.le_of_ble_eq_true rfl) (warm_zero _) | exact eff_store 5 sc40 rfl rfl rfl rfl (Nat.le_of_ble_eq_true rfl) (warm_zero _) | exact eff_store 6 sc40 rfl rfl rfl rfl (Nat.le_of_ble_eq_true rfl) (warm_zero _) | exact eff_store 7 sc40 rfl rfl rfl rfl (Nat.le_of_ble_eq_true rfl) (warm_zero _))) rfl ?_
        rintro _ _ rfl
        refine ops_nil ?_
        repeat (first | refine InBlock_normal ?_ | refine NoGoto_normal ?_ | refine Jump_normal ?_)
        refine Then_normal ?_
        refine wp_region' ?_
        refine ops_ro' rfl (ro_move rfl) rfl ?_
        refine ops_eff' rfl (eff_call Try.call60 rfl rfl (by first | exact Split.cons 0 rfl (Split.cons 0 rfl (Split.nil _)) | exact Split.cons 1 rfl (Split.cons 1 rfl (Split.nil _)) | exact Split.cons 2 rfl (Split.cons 2 rfl (Split.nil _)) | exact Split.cons 3 rfl (Split.cons 3 rfl (Split.nil _)) | exact Split.cons 4 rfl (Split.cons 4 rfl (Split.nil _)) | exact Split.cons 5 rfl (Split.cons 5 rfl (Split.nil _)) | exact Split.cons 6 rfl (Split.cons 6 rfl (Split.nil _)) | exact Split.cons 7 rfl (Split.cons 7 rfl (Split.nil _)) | exact Split.cons 0 rfl (Split.cons 1 rfl (Split.nil _)) | exact Split.cons 0 rfl (Split.cons 2 rfl (Split.nil _)) | exact Split.cons 0 rfl (Split.cons 3 rfl (Split.nil _)) | exact Split.cons 0 rfl (Split.cons 4 rfl (Split.nil _)) | exact Split.cons 0 rfl (Split.cons 5 rfl (Split.nil _)) | exact Split.cons 0 rfl (Split.cons 6 rfl (Split.nil _)) | exact Split.cons 1 rfl (Split.cons 0 rfl (Split.nil _)) | exact Split.cons 1 rfl (Split.cons 2 rfl (Split.nil _)) | exact Split.cons 1 rfl (Split.cons 3 rfl (Split.nil _)) | exact Split.cons 1 rfl (Split.cons 4 rfl (Split.nil _)) | exact Split.cons 1 rfl (Split.cons 5 rfl (Split.nil _)) | exact Split.cons 1 rfl (Split.cons 6 rfl (Split.nil _)) | exact Split.cons 2 rfl (Split.cons 0 rfl (Split.nil _)) | exact Split.cons 2 rfl (Split.cons 1 rfl (Split.nil _)) | exact Split.cons 2 rfl (Split.cons 3 rfl (Split.nil _)) | exact Split.cons 2 rfl (Split.cons 4 rfl (Split.nil _)) | exact Split.cons 2 rfl (Split.cons 5 rfl (Split.nil _)) | exact Split.cons 2 rfl (Split.cons 6 rfl (Split.nil _)) | exact Split.cons 3 rfl (Split.cons 0 rfl (Split.nil _)) | exact Split.cons 3 rfl (Split.cons 1 rfl (Split.nil _)) | exact Split.cons 3 rfl (Split.cons 2 rfl (Split.nil _)) | exact Split.cons 3 rfl (Split.cons 4 rfl (Split.nil _)) | exact Split.cons 3 rfl (Split.cons 5 rfl (Split.nil _)) | exact Split.cons 3 rfl (Split.cons 6 rfl (Split.nil _)) | exact Split.cons 4 rfl (Split.cons 0 rfl (Split.nil _)) | exact Split.cons 4 rfl (Split.cons 1 rfl (Split.nil _)) | exact Split.cons 4 rfl (Split.cons 2 rfl (Split.nil _)) | exact Split.cons 4 rfl (Split.cons 3 rfl (Split.nil _)) | exact Split.cons 4 rfl (Split.cons 5 rfl (Split.nil _)) | exact Split.cons 4 rfl (Split.cons 6 rfl (Split.nil _)) | exact Split.cons 5 rfl (Split.cons 0 rfl (Split.nil _)) | exact Split.cons 5 rfl (Split.cons 1 rfl (Split.nil _)) | exact Split.cons 5 rfl (Split.cons 2 rfl (Split.nil _)) | exact Split.cons 5 rfl (Split.cons 3 rfl (Split.nil _)) | exact Split.cons 5 rfl (Split.cons 4 rfl (Split.nil _)) | exact Split.cons 5 rfl (Split.cons 6 rfl (Split.nil _)) | exact Split.cons 6 rfl (Split.cons 0 rfl (Split.nil _)) | exact Split.cons 6 rfl (Split.cons 1 rfl (Split.nil _)) | exact Split.cons 6 rfl (Split.cons 2 rfl (Split.nil _)) | exact Split.cons 6 rfl (Split.cons 3 rfl (Split.nil _)) | exact Split.cons 6 rfl (Split.cons 4 rfl (Split.nil _)) | exact Split.cons 6 rfl (Split.cons 5 rfl (Split.nil _)) | exact Split.cons 7 rfl (Split.cons 0 rfl (Split.nil _)) | exact Split.cons 7 rfl (Split.cons 1 rfl (Split.nil _)) | exact Split.cons 7 rfl (Split.cons 2 rfl (Split.nil _)) | exact Split.cons 7 rfl (Split.cons 3 rfl (Split.nil _)) | exact Split.cons 7 rfl (Split.cons 4 rfl (Split.nil _)) | exact Split.cons 7 rfl (Split.cons 5 rfl (Split.nil _)) | exact Split.cons 7 rfl (Split.cons 6 rfl (Split.nil _))) (rU32_spec _ _ _ (((r5).get 4).1) (by simp only [get_b, hb5]; omega) (by simp only [get_b, hb5]; have := get_pos r5 4 (by rw [hb5]; exact hp5); rwa [hb5] at this))) rfl ?_
        rintro _ H' ⟨_, ⟨rfl, rfl⟩, hH⟩
        simp only [List.cons_append, List.nil_append, List.eraseIdx_cons_zero, List.eraseIdx_cons_succ, List.set_cons_zero, List.set_cons_succ] at hH
        subst hH
        refine ops_ro' rfl (ro_fieldAddr fa54_6 rfl) rfl ?_
        refine ops_eff0 rfl ((by first | exact eff_store 0 sc40 rfl rfl rfl rfl (Nat.le_of_ble_eq_true rfl) (warm_zero _) | exact eff_store 1 sc40 rfl rfl rfl rfl (Nat.le_of_ble_eq_true rfl) (warm_zero _) | exact eff_store 2 sc40 rfl rfl rfl rfl (Nat.le_of_ble_eq_true rfl) (warm_zero _) | exact eff_store 3 sc40 rfl rfl rfl rfl (Nat.le_of_ble_eq_true rfl) (warm_zero _) | exact eff_store 4 sc40 rfl rfl rfl rfl (Nat.le_of_ble_eq_true rfl) (warm_zero _) | exact eff_store 5 sc40 rfl rfl rfl rfl (Nat.le_of_ble_eq_true rfl) (warm_zero _) | exact eff_store 6 sc40 rfl rfl rfl rfl (Nat.le_of_ble_eq_true rfl) (warm_zero _) | exact eff_store 7 sc40 rfl rfl rfl rfl (Nat.le_of_ble_eq_true rfl) (warm_zero _))) rfl ?_
        rintro _ _ rfl
        refine ops_nil ?_
        repeat (first | refine InBlock_normal ?_ | refine NoGoto_normal ?_ | refine Jump_normal ?_)
        refine Then_normal ?_
        refine ⟨Has.cons rfl (Has.cons rfl (Has.cons rfl (Has.nil _))), ((r5.get 4).1.get 4).1, { x5 with a := ((r5).get 4).2, t := ((((r5).get 4).1).get 4).2 }, by rw [R.s4, if_pos (by simp only; omega)], (by simp only [get_b, hb5]), (by have h1 := get_pos r5 4 (by rw [hb5]; exact hp5); have := get_pos (r5.get 4).1 4 (by rw [get_b]; exact h1); rwa [get_b, hb5] at this), rfl, rfl⟩
      · try replace hc6 := of_decide_eq_false hc6
        refine wp_skip' ?_
        repeat (first | refine InBlock_normal ?_ | refine NoGoto_normal ?_ | refine Jump_normal ?_)
        refine Then_normal ?_
        refine ⟨Has.cons rfl (Has.cons rfl (Has.cons rfl (Has.nil _))), r5, x5, by rw [R.s4, if_neg (by simp only; omega)], hb5, hp5, rfl, rfl⟩
    rintro Γ H ⟨hΓ, r6, x6, he6, hb6, hp6, hf6, rfl⟩
    refine wp_has hΓ ?_
    have hf6 : x6.f < 4294967296 := by rw [hf6]; exact hf5
    refine wp_seq' ?_
    refine wp_seq' ?_
    refine wp_region' ?_
    refine ops_ro' rfl (ro_move rfl) rfl ?_
    refine ops_eff' rfl (eff_call Try.call90 rfl rfl (by first | exact Split.cons 0 rfl (Split.cons 0 rfl (Split.nil _)) | exact Split.cons 1 rfl (Split.cons 1 rfl (Split.nil _)) | exact Split.cons 2 rfl (Split.cons 2 rfl (Split.nil _)) | exact Split.cons 3 rfl (Split.cons 3 rfl (Split.nil _)) | exact Split.cons 4 rfl (Split.cons 4 rfl (Split.nil _)) | exact Split.cons 5 rfl (Split.cons 5 rfl (Split.nil _)) | exact Split.cons 6 rfl (Split.cons 6 rfl (Split.nil _)) | exact Split.cons 7 rfl (Split.cons 7 rfl (Split.nil _)) | exact Split.cons 0 rfl (Split.cons 1 rfl (Split.nil _)) | exact Split.cons 0 rfl (Split.cons 2 rfl (Split.nil _)) | exact Split.cons 0 rfl (Split.cons 3 rfl (Split.nil _)) | exact Split.cons 0 rfl (Split.cons 4 rfl (Split.nil _)) | exact Split.cons 0 rfl (Split.cons 5 rfl (Split.nil _)) | exact Split.cons 0 rfl (Split.cons 6 rfl (Split.nil _)) | exact Split.cons 1 rfl (Split.cons 0 rfl (Split.nil _)) | exact Split.cons 1 rfl (Split.cons 2 rfl (Split.nil _)) | exact Split.cons 1 rfl (Split.cons 3 rfl (Split.nil _)) | exact Split.cons 1 rfl (Split.cons 4 rfl (Split.nil _)) | exact Split.cons 1 rfl (Split.cons 5 rfl (Split.nil _)) | exact Split.cons 1 rfl (Split.cons 6 rfl (Split.nil _)) | exact Split.cons 2 rfl (Split.cons 0 rfl (Split.nil _)) | exact Split.cons 2 rfl (Split.cons 1 rfl (Split.nil _)) | exact Split.cons 2 rfl (Split.cons 3 rfl (Split.nil _)) | exact Split.cons 2 rfl (Split.cons 4 rfl (Split.nil _)) | exact Split.cons 2 rfl (Split.cons 5 rfl (Split.nil _)) | exact Split.cons 2 rfl (Split.cons 6 rfl (Split.nil _)) | exact Split.cons 3 rfl (Split.cons 0 rfl (Split.nil _)) | exact Split.cons 3 rfl (Split.cons 1 rfl (Split.nil _)) | exact Split.cons 3 rfl (Split.cons 2 rfl (Split.nil _)) | exact Split.cons 3 rfl (Split.cons 4 rfl (Split.nil _)) | exact Split.cons 3 rfl (Split.cons 5 rfl (Split.nil _)) | exact Split.cons 3 rfl (Split.cons 6 rfl (Split.nil _)) | exact Split.cons 4 rfl (Split.cons 0 rfl (Split.nil _)) | exact Split.cons 4 rfl (Split.cons 1 rfl (Split.nil _)) | exact Split.cons 4 rfl (Split.cons 2 rfl (Split.nil _)) | exact Split.cons 4 rfl (Split.cons 3 rfl (Split.nil _)) | exact Split.cons 4 rfl (Split.cons 5 rfl (Split.nil _)) | exact Split.cons 4 rfl (Split.cons 6 rfl (Split.nil _)) | exact Split.cons 5 rfl (Split.cons 0 rfl (Split.nil _)) | exact Split.cons 5 rfl (Split.cons 1 rfl (Split.nil _)) | exact Split.cons 5 rfl (Split.cons 2 rfl (Split.nil _)) | exact Split.cons 5 rfl (Split.cons 3 rfl (Split.nil _)) | exact Split.cons 5 rfl (Split.cons 4 rfl (Split.nil _)) | exact Split.cons 5 rfl (Split.cons 6 rfl (Split.nil _)) | exact Split.cons 6 rfl (Split.cons 0 rfl (Split.nil _)) | exact Split.cons 6 rfl (Split.cons 1 rfl (Split.nil _)) | exact Split.cons 6 rfl (Split.cons 2 rfl (Split.nil _)) | exact Split.cons 6 rfl (Split.cons 3 rfl (Split.nil _)) | exact Split.cons 6 rfl (Split.cons 4 rfl (Split.nil _)) | exact Split.cons 6 rfl (Split.cons 5 rfl (Split.nil _)) | exact Split.cons 7 rfl (Split.cons 0 rfl (Split.nil _)) | exact Split.cons 7 rfl (Split.cons 1 rfl (Split.nil _)) | exact Split.cons 7 rfl (Split.cons 2 rfl (Split.nil _)) | exact Split.cons 7 rfl (Split.cons 3 rfl (Split.nil _)) | exact Split.cons 7 rfl (Split.cons 4 rfl (Split.nil _)) | exact Split.cons 7 rfl (Split.cons 5 rfl (Split.nil _)) | exact Split.cons 7 rfl (Split.cons 6 rfl (Split.nil _))) (fine_spec _ _ _ r6)) rfl ?_
    rintro _ H' ⟨_, ⟨rfl, rfl⟩, hH⟩
    simp only [List.cons_append, List.nil_append, List.eraseIdx_cons_zero, List.eraseIdx_cons_succ, List.set_cons_zero, List.set_cons_succ] at hH
    subst hH
    refine ops_ro' rfl (ro_not rfl rfl) rfl ?_
    refine ops_nil ?_
    repeat (first | refine InBlock_normal ?_ | refine NoGoto_normal ?_ | refine Jump_normal ?_)
    refine Then_normal ?_
    refine wp_cond' rfl (fun hc7 => ?_) (fun hc7 => ?_)
    · simp only [Bool.not_eq_true', decide_eq_false_iff_not, Bool.not_eq_false', decide_eq_true_eq] at hc7
      refine wp_seq' ?_
      refine wp_region' ?_
      refine ops_ro' rfl (ro_build rfl (show Bld Try.prog 54 [] At.zero.v from bld_struct (cs := At.zero.cs) st54 rfl)) rfl ?_
      refine ops_eff0 rfl ((by first | exact eff_storeA 0 ag54 rfl rfl rfl rfl rfl (Nat.le_of_ble_eq_true rfl) (warm_zero _) | exact eff_storeA 1 ag54 rfl rfl rfl rfl rfl (Nat.le_of_ble_eq_true rfl) (warm_zero _) | exact eff_storeA 2 ag54 rfl rfl rfl rfl rfl (Nat.le_of_ble_eq_true rfl) (warm_zero _) | exact eff_storeA 3 ag54 rfl rfl rfl rfl rfl (Nat.le_of_ble_eq_true rfl) (warm_zero _) | exact eff_storeA 4 ag54 rfl rfl rfl rfl rfl (Nat.le_of_ble_eq_true rfl) (warm_zero _) | exact eff_storeA 5 ag54 rfl rfl rfl rfl rfl (Nat.le_of_ble_eq_true rfl) (warm_zero _) | exact eff_storeA 6 ag54 rfl rfl rfl rfl rfl (Nat.le_of_ble_eq_true rfl) (warm_zero _) | exact eff_storeA 7 ag54 rfl rfl rfl rfl rfl (Nat.le_of_ble_eq_true rfl) (warm_zero _))) rfl ?_
      rintro _ _ rfl
      refine ops_nil ?_
      repeat (first | refine InBlock_normal ?_ | refine NoGoto_normal ?_ | refine Jump_normal ?_)
      refine Then_normal ?_
      refine wp_ret' ?_
      repeat (first | refine Then_ret ?_ | refine InBlock_ret ?_ | refine NoGoto_ret ?_ | refine Jump_ret ?_)
      refine done_ret (resv1 rfl (rv_cellA ag54 rfl (by first | exact RdN.of_pick 0 rfl rdn_all | exact RdN.of_pick 1 rfl rdn_all | exact RdN.of_pick 2 rfl rdn_all | exact RdN.of_pick 3 rfl rdn_all | exact RdN.of_pick 4 rfl rdn_all | exact RdN.of_pick 5 rfl rdn_all | exact RdN.of_pick 6 rfl rdn_all | exact RdN.of_pick 7 rfl rdn_all) rfl)) ?_
      have e : r.attrs = (r6, At.zero) := by rw [attrs_eq hx1 he1 hc2 he3 he4 he5 he6, if_pos hc7]
      rw [e]; exact ⟨rfl, _, _, rfl⟩
    · simp only [Bool.not_eq_true', decide_eq_false_iff_not, Bool.not_eq_false', decide_eq_true_eq] at hc7
      refine wp_skip' ?_
      repeat (first | refine InBlock_normal ?_ | refine NoGoto_normal ?_ | refine Jump_normal ?_)
      refine Then_normal ?_
      refine wp_seq' ?_
      refine wp_region' ?_
      refine ops_ro' rfl (ro_loadA ag54 rfl (by first | exact RdN.of_pick 0 rfl rdn_all | exact RdN.of_pick 1 rfl rdn_all | exact RdN.of_pick 2 rfl rdn_all | exact RdN.of_pick 3 rfl rdn_all | exact RdN.of_pick 4 rfl rdn_all | exact RdN.of_pick 5 rfl rdn_all | exact RdN.of_pick 6 rfl rdn_all | exact RdN.of_pick 7 rfl rdn_all) rfl) rfl ?_
      refine ops_eff0 rfl ((by first | exact eff_storeA 0 ag54 rfl rfl rfl rfl rfl (Nat.le_of_ble_eq_true rfl) (warm_zero _) | exact eff_storeA 1 ag54 rfl rfl rfl rfl rfl (Nat.le_of_ble_eq_true rfl) (warm_zero _) | exact eff_storeA 2 ag54 rfl rfl rfl rfl rfl (Nat.le_of_ble_eq_true rfl) (warm_zero _) | exact eff_storeA 3 ag54 rfl rfl rfl rfl rfl (Nat.le_of_ble_eq_true rfl) (warm_zero _) | exact eff_storeA 4 ag54 rfl rfl rfl rfl rfl (Nat.le_of_ble_eq_true rfl) (warm_zero _) | exact eff_storeA 5 ag54 rfl rfl rfl rfl rfl (Nat.le_of_ble_eq_true rfl) (warm_zero _) | exact eff_storeA 6 ag54 rfl rfl rfl rfl rfl (Nat.le_of_ble_eq_true rfl) (warm_zero _) | exact eff_storeA 7 ag54 rfl rfl rfl rfl rfl (Nat.le_of_ble_eq_true rfl) (warm_zero _))) rfl ?_
      rintro _ _ rfl
      refine ops_nil ?_
      repeat (first | refine InBlock_normal ?_ | refine NoGoto_normal ?_ | refine Jump_normal ?_)
      refine Then_normal ?_
      refine wp_ret' ?_
      repeat (first | refine Then_ret ?_ | refine InBlock_ret ?_ | refine NoGoto_ret ?_ | refine Jump_ret ?_)
      refine done_ret (resv1 rfl (rv_cellA ag54 rfl (by first | exact RdN.of_pick 0 rfl rdn_all | exact RdN.of_pick 1 rfl rdn_all | exact RdN.of_pick 2 rfl rdn_all | exact RdN.of_pick 3 rfl rdn_all | exact RdN.of_pick 4 rfl rdn_all | exact RdN.of_pick 5 rfl rdn_all | exact RdN.of_pick 6 rfl rdn_all | exact RdN.of_pick 7 rfl rdn_all) rfl)) ?_
      have e : r.attrs = (r6, x6) := by rw [attrs_eq hx1 he1 hc2 he3 he4 he5 he6, if_neg (by simpa using hc7)]
      rw [e]; exact ⟨rfl, _, _, rfl⟩
theorem aget_spec (pr : Nat) (p : Option Addr) (c : Nat) (r : R) (hl : r.b.length ≤ 140737488355328) (hp : r.pos ≤ r.b.length) :
    Tri Try.prog 64 [.pointer (some ⟨pr, 0, none⟩)] (rd pr p c r) (fun v H' => v = r.attrs.2.v ∧ H' = rd pr p c r.attrs.1) :=
  tri_weak (aget_run pr p c r hl hp) fun v H ⟨h1, A1, A2, h2⟩ => ⟨_, ⟨h1, rfl⟩, fun w F s => by subst h2; exact St_drop 2 (St_drop 2 s)⟩

end Go.Proofs.Ytigaolglnnjnmaa
