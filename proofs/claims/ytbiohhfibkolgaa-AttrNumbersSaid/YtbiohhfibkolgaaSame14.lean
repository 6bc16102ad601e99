/-
  What Get of package strongroomref14 does; the two readings agree.
-/
import Derived.Test.YtbiohhfibkolgaaRef14
import Derived.Test.YtbiohhfibkolgaaAttrCuts
namespace Go.Proofs.Ytbiohhfibkolgaa
open Go.Sx
set_option linter.unusedVariables false
set_option linter.unusedSimpArgs false
set_option maxRecDepth 100000

theorem q32_of (pr : Nat) (p : Option Addr) (c : Nat) (r : R) (n : Nat) (hn : r.b.length = n) (V : HProp) (hV : Vw V (.slice p n c) n (cel r.b)) (hcap : n ≤ c) (hl : n ≤ 140737488355328) (hp : r.pos ≤ r.b.length) :
    Tri Try.prog 84 [.pointer (some ⟨pr, 0, none⟩)] [rq pr (.slice p n c) r, V] (fun v H' => v = .int .u32 (r.get 4).2 ∧ H' = [rq pr (.slice p n c) (r.get 4).1, V]) := by
  subst hn; exact q32_spec pr p c r V hV hcap hl hp
theorem q64_of (pr : Nat) (p : Option Addr) (c : Nat) (r : R) (n : Nat) (hn : r.b.length = n) (V : HProp) (hV : Vw V (.slice p n c) n (cel r.b)) (hcap : n ≤ c) (hl : n ≤ 140737488355328) (hp : r.pos ≤ r.b.length) :
    Tri Try.prog 86 [.pointer (some ⟨pr, 0, none⟩)] [rq pr (.slice p n c) r, V] (fun v H' => v = .int .u64 (r.get 8).2 ∧ H' = [rq pr (.slice p n c) (r.get 8).1, V]) := by
  subst hn; exact q64_spec pr p c r V hV hcap hl hp
theorem get_refused {r : R} (h : ¬ r.why = 0) (n : Nat) : (r.get n).1 = r := by rw [R.get, R.take, if_pos h]
theorem s1_ref {r : R} (h : ¬ r.why = 0) (x : At) : (R.s1 (r, x)).1 = r := by unfold R.s1; split; exact get_refused h 8; rfl
theorem s2_ref {r : R} (h : ¬ r.why = 0) (x : At) : (R.s2 (r, x)).1 = r := by unfold R.s2; split; exact (congrArg (fun q : R => (q.get 4).1) (get_refused h 4)).trans (get_refused h 4); rfl
theorem s3_ref {r : R} (h : ¬ r.why = 0) (x : At) : (R.s3 (r, x)).1 = r := by unfold R.s3; split; exact get_refused h 4; rfl
theorem s4_ref {r : R} (h : ¬ r.why = 0) (x : At) : (R.s4 (r, x)).1 = r := by unfold R.s4; split; exact (congrArg (fun q : R => (q.get 4).1) (get_refused h 4)).trans (get_refused h 4); rfl
theorem attrs_q {r r1 r3 r4 r5 r6 : R} {x1 x3 x4 x5 x6 : At} (hx1 : ({ At.zero with f := (r.get 4).2 } : At) = x1) (he1 : r1 = R.gate (r.get 4).1 (r.get 4).2) (h3 : (r3, x3) = R.s1 (r1, x1)) (h4 : (r4, x4) = R.s2 (r3, x3)) (h5 : (r5, x5) = R.s3 (r4, x4)) (h6 : (r6, x6) = R.s4 (r5, x5)) :
    r.attrs = if r6.why ≠ 0 then (r6, At.zero) else (r6, x6) := by
  by_cases h1 : r1.why = 0
  · exact attrs_eq hx1 he1 h1 h3 h4 h5 h6
  · have e3 : r3 = r1 := by have := congrArg Prod.fst h3; rw [s1_ref h1] at this; exact this
    subst e3
    have e4 : r4 = r3 := by have := congrArg Prod.fst h4; rw [s2_ref h1] at this; exact this
    subst e4
    have e5 : r5 = r4 := by have := congrArg Prod.fst h5; rw [s3_ref h1] at this; exact this
    subst e5
    have e6 : r6 = r5 := by have := congrArg Prod.fst h6; rw [s4_ref h1] at this; exact this
    subst e6
    rw [if_pos h1, R.attrs, ← he1, if_pos h1]
theorem qget_run (pr : Nat) (p : Option Addr) (c : Nat) (r : R) (V : HProp) (hV : Vw V (.slice p r.b.length c) r.b.length (cel r.b)) (hcap : r.b.length ≤ c) (hl : r.b.length ≤ 140737488355328) (hp : r.pos ≤ r.b.length) :
    Tri Try.prog 71 [.pointer (some ⟨pr, 0, none⟩)] [rq pr (.slice p r.b.length c) r, V] (fun v H' => v = r.attrs.2.v ∧ ∃ A1 A2, H' = [rq pr (.slice p r.b.length c) r.attrs.1, V, A1, A2]) := by
  by_cases hw : (r.get 4).1.why = 0
  · skip
    refine tri_of_wp Try.func71 rfl Try.ntmps71 (by simp) ?_
    refine wp_seq' ?_
    refine wp_region' ?_
    refine ops_eff' rfl (eff_alloc z30) rfl ?_
    rintro _ _ ⟨b2, rfl, rfl⟩
    refine ops_nil ?_
    repeat (first | refine InBlock_normal ?_ | refine NoGoto_normal ?_ | refine Jump_normal ?_)
    refine Then_normal ?_
    refine wp_seq' ?_
    refine wp_region' ?_
    refine ops_ro' rfl (ro_move rfl) rfl ?_
    refine ops_eff' rfl (eff_call Try.call84 rfl rfl (Split.cons 1 rfl (Split.cons 1 rfl (Split.nil _))) (q32_spec pr p c r V hV hcap hl hp)) rfl ?_
    rintro _ H' ⟨_, ⟨rfl, rfl⟩, hH⟩
    simp only [List.cons_append, List.nil_append, List.eraseIdx_cons_zero, List.eraseIdx_cons_succ, List.set_cons_zero, List.set_cons_succ] at hH
    subst hH
    refine ops_ro' rfl (ro_build rfl (show Bld Try.prog 30 _ (At.v { At.zero with f := (r.get 4).2 }) from bld_struct (cs := At.cs { At.zero with f := (r.get 4).2 }) st30 rfl)) rfl ?_
    refine ops_eff' rfl (eff_alloc z30) rfl ?_
    rintro _ _ ⟨b3, rfl, rfl⟩
    refine ops_eff0 rfl ((by first | exact eff_storeA 0 ag30 rfl rfl rfl rfl rfl (Nat.le_of_ble_eq_true rfl) (warm_zero _) | exact eff_storeA 1 ag30 rfl rfl rfl rfl rfl (Nat.le_of_ble_eq_true rfl) (warm_zero _) | exact eff_storeA 2 ag30 rfl rfl rfl rfl rfl (Nat.le_of_ble_eq_true rfl) (warm_zero _) | exact eff_storeA 3 ag30 rfl rfl rfl rfl rfl (Nat.le_of_ble_eq_true rfl) (warm_zero _) | exact eff_storeA 4 ag30 rfl rfl rfl rfl rfl (Nat.le_of_ble_eq_true rfl) (warm_zero _) | exact eff_storeA 5 ag30 rfl rfl rfl rfl rfl (Nat.le_of_ble_eq_true rfl) (warm_zero _) | exact eff_storeA 6 ag30 rfl rfl rfl rfl rfl (Nat.le_of_ble_eq_true rfl) (warm_zero _) | exact eff_storeA 7 ag30 rfl rfl rfl rfl rfl (Nat.le_of_ble_eq_true rfl) (warm_zero _))) rfl ?_
    rintro _ _ rfl
    refine ops_front 2 rfl ?_
    refine ops_front 2 rfl ?_
    refine ops_nil ?_
    repeat (first | refine InBlock_normal ?_ | refine NoGoto_normal ?_ | refine Jump_normal ?_)
    refine Then_normal ?_
    refine wp_cut (fun Γ H => Has Γ [(0, .pointer (some ⟨pr, 0, none⟩)), (2, .pointer (some ⟨b2, 0, none⟩)), (3, .pointer (some ⟨b3, 0, none⟩))] ∧ ∃ r1, r1 = R.gate (r.get 4).1 (r.get 4).2 ∧ r1.b = r.b ∧ r1.pos ≤ r.b.length ∧ H = [rq pr (.slice p r.b.length c) (r1), V, own b3 (.cells ({ At.zero with f := (r.get 4).2 }).cs.toArray 30 (0, 0)), own b2 (.cells At.zero.cs.toArray 30 (0, 0))]) ?_ ?_
    · refine wp_seq' ?_
      rw [rq_no hw]
      refine wp_region' ?_
      refine ops_ro' rfl (ro_move rfl) rfl ?_
      refine ops_ro' rfl (ro_nilCheck rfl) rfl ?_
      refine ops_ro' rfl (ro_fieldAddr fa120_2 rfl) rfl ?_
      refine ops_ro' rfl (ro_load sc4 rfl (by first | exact Rd.pick 0 rfl (by first | exact Rd.own rfl | exact Rd.row rfl) | exact Rd.pick 1 rfl (by first | exact Rd.own rfl | exact Rd.row rfl) | exact Rd.pick 2 rfl (by first | exact Rd.own rfl | exact Rd.row rfl) | exact Rd.pick 3 rfl (by first | exact Rd.own rfl | exact Rd.row rfl) | exact Rd.pick 4 rfl (by first | exact Rd.own rfl | exact Rd.row rfl) | exact Rd.pick 5 rfl (by first | exact Rd.own rfl | exact Rd.row rfl) | exact Rd.pick 6 rfl (by first | exact Rd.own rfl | exact Rd.row rfl) | exact Rd.pick 7 rfl (by first | exact Rd.own rfl | exact Rd.row rfl))) rfl ?_
      refine ops_ro' rfl (ro_not rfl (c := true) rfl) rfl ?_
      refine ops_ro' rfl (ro_move rfl) rfl ?_
      refine ops_ro' rfl (ro_fieldAddr fa30_0 rfl) rfl ?_
      refine ops_ro' rfl (ro_load sc27 rfl (by first | exact Rd.pick 0 rfl (by first | exact Rd.own rfl | exact Rd.row rfl) | exact Rd.pick 1 rfl (by first | exact Rd.own rfl | exact Rd.row rfl) | exact Rd.pick 2 rfl (by first | exact Rd.own rfl | exact Rd.row rfl) | exact Rd.pick 3 rfl (by first | exact Rd.own rfl | exact Rd.row rfl) | exact Rd.pick 4 rfl (by first | exact Rd.own rfl | exact Rd.row rfl) | exact Rd.pick 5 rfl (by first | exact Rd.own rfl | exact Rd.row rfl) | exact Rd.pick 6 rfl (by first | exact Rd.own rfl | exact Rd.row rfl) | exact Rd.pick 7 rfl (by first | exact Rd.own rfl | exact Rd.row rfl))) rfl ?_
      refine ops_ro' rfl (ro_gtr rfl rfl rfl) rfl ?_
      refine ops_ro' rfl (ro_pick rfl rfl) rfl ?_
      refine ops_nil ?_
      rw [← rq_no hw]
      repeat (first | refine InBlock_normal ?_ | refine NoGoto_normal ?_ | refine Jump_normal ?_)
      refine Then_normal ?_
      refine wp_cond' rfl (fun hc0 => ?_) (fun hc0 => ?_)
      · try replace hc0 := of_decide_eq_true hc0
        refine wp_region' ?_
        refine ops_ro' rfl (ro_move rfl) rfl ?_
        refine ops_eff' rfl (eff_call Try.call85 rfl rfl (Split.cons 0 rfl (Split.nil _)) (qfail_spec _ _ _ 12 (by omega))) rfl ?_
        rintro _ H' ⟨_, ⟨rfl, rfl⟩, hH⟩
        simp only [List.cons_append, List.nil_append, List.eraseIdx_cons_zero, List.eraseIdx_cons_succ, List.set_cons_zero, List.set_cons_succ] at hH
        subst hH
        refine ops_nil ?_
        repeat (first | refine InBlock_normal ?_ | refine NoGoto_normal ?_ | refine Jump_normal ?_)
        refine Then_normal ?_
        refine ⟨Has.cons rfl (Has.cons rfl (Has.cons rfl (Has.nil _))), (r.get 4).1.fail 12, by rw [R.gate, if_pos (by have h : (15:Int) < ((r.get 4).2 : Int) := hc0; omega)], by rw [fail_b, get_b], by rw [fail_pos]; exact get_pos r 4 hp, rfl⟩
      · try replace hc0 := of_decide_eq_false hc0
        refine wp_skip' ?_
        repeat (first | refine InBlock_normal ?_ | refine NoGoto_normal ?_ | refine Jump_normal ?_)
        refine Then_normal ?_
        refine ⟨Has.cons rfl (Has.cons rfl (Has.cons rfl (Has.nil _))), (r.get 4).1, by rw [R.gate, if_neg (by have h : ¬ (15:Int) < ((r.get 4).2 : Int) := hc0; omega)], get_b r 4, get_pos r 4 hp, rfl⟩
    rintro Γ H ⟨hΓ, r1, he1, hb1, hp1, rfl⟩
    refine wp_has hΓ ?_
    generalize hx1 : ({ At.zero with f := (r.get 4).2 } : At) = x1
    have hf1 : x1.f < 4294967296 := by rw [← hx1]; exact get_lt r 4
    refine wp_cut (fun Γ H => Has Γ [(0, .pointer (some ⟨pr, 0, none⟩)), (2, .pointer (some ⟨b2, 0, none⟩)), (3, .pointer (some ⟨b3, 0, none⟩))] ∧ ∃ r' x', (r', x') = R.s1 (r1, x1) ∧ r'.b = r.b ∧ r'.pos ≤ r.b.length ∧ x'.f = x1.f ∧ H = [rq pr (.slice p r.b.length c) (r'), V, own b3 (.cells (x').cs.toArray 30 (0, 0)), own b2 (.cells At.zero.cs.toArray 30 (0, 0))]) ?_ ?_
    · refine wp_seq' ?_
      refine wp_region' ?_
      refine ops_ro' rfl (ro_fieldAddr fa30_0 rfl) rfl ?_
      refine ops_ro' rfl (ro_load sc27 rfl (by first | exact Rd.pick 0 rfl (by first | exact Rd.own rfl | exact Rd.row rfl) | exact Rd.pick 1 rfl (by first | exact Rd.own rfl | exact Rd.row rfl) | exact Rd.pick 2 rfl (by first | exact Rd.own rfl | exact Rd.row rfl) | exact Rd.pick 3 rfl (by first | exact Rd.own rfl | exact Rd.row rfl) | exact Rd.pick 4 rfl (by first | exact Rd.own rfl | exact Rd.row rfl) | exact Rd.pick 5 rfl (by first | exact Rd.own rfl | exact Rd.row rfl) | exact Rd.pick 6 rfl (by first | exact Rd.own rfl | exact Rd.row rfl) | exact Rd.pick 7 rfl (by first | exact Rd.own rfl | exact Rd.row rfl))) rfl ?_
      refine ops_ro' rfl (ro_and rfl rfl (and32 hf1 (c := 1) (by decide) rfl)) rfl ?_
      refine ops_ro' rfl (ro_neq rfl rfl rfl) rfl ?_
      refine ops_nil ?_
      repeat (first | refine InBlock_normal ?_ | refine NoGoto_normal ?_ | refine Jump_normal ?_)
      refine Then_normal ?_
      refine wp_cond' rfl (fun hc1 => ?_) (fun hc1 => ?_)
      · try replace hc1 := of_decide_eq_true hc1
        refine wp_region' ?_
        refine ops_ro' rfl (ro_move rfl) rfl ?_
        refine ops_eff' rfl (eff_call Try.call86 rfl rfl (Split.cons 0 rfl (Split.cons 0 rfl (Split.nil _))) (q64_of pr p c (r1) _ (by simp only [hb1]) V (by simp only [hb1]; exact hV) hcap hl (by rw [hb1]; exact hp1))) rfl ?_
        rintro _ H' ⟨_, ⟨rfl, rfl⟩, hH⟩
        simp only [List.cons_append, List.nil_append, List.eraseIdx_cons_zero, List.eraseIdx_cons_succ, List.set_cons_zero, List.set_cons_succ] at hH
        subst hH
        refine ops_ro' rfl (ro_fieldAddr fa30_1 rfl) rfl ?_
        refine ops_eff0 rfl ((by first | exact eff_store 0 sc28 rfl rfl rfl rfl (Nat.le_of_ble_eq_true rfl) (warm_zero _) | exact eff_store 1 sc28 rfl rfl rfl rfl (Nat.le_of_ble_eq_true rfl) (warm_zero _) | exact eff_store 2 sc28 rfl rfl rfl rfl (Nat.le_of_ble_eq_true rfl) (warm_zero _) | exact eff_store 3 sc28 rfl rfl rfl rfl (Nat.le_of_ble_eq_true rfl) (warm_zero _) | exact eff_store 4 sc28 rfl rfl rfl rfl (Nat.le_of_ble_eq_true rfl) (warm_zero _) | exact eff_store 5 sc28 rfl rfl rfl rfl (Nat.le_of_ble_eq_true rfl) (warm_zero _) | exact eff_store 6 sc28 rfl rfl rfl rfl (Nat.le_of_ble_eq_true rfl) (warm_zero _) | exact eff_store 7 sc28 rfl rfl rfl rfl (Nat.le_of_ble_eq_true rfl) (warm_zero _))) rfl ?_
        rintro _ _ rfl
        refine ops_nil ?_
        repeat (first | refine InBlock_normal ?_ | refine NoGoto_normal ?_ | refine Jump_normal ?_)
        refine Then_normal ?_
        refine ⟨Has.cons rfl (Has.cons rfl (Has.cons rfl (Has.nil _))), (r1.get 8).1, { x1 with s := ((r1).get 8).2 }, by rw [R.s1, if_pos (by simp only; omega)], (by simp only [get_b, hb1]), (by have := get_pos r1 8 (by rw [hb1]; exact hp1); rwa [hb1] at this), rfl, rfl⟩
      · try replace hc1 := of_decide_eq_false hc1
        refine wp_skip' ?_
        repeat (first | refine InBlock_normal ?_ | refine NoGoto_normal ?_ | refine Jump_normal ?_)
        refine Then_normal ?_
        refine ⟨Has.cons rfl (Has.cons rfl (Has.cons rfl (Has.nil _))), r1, x1, by rw [R.s1, if_neg (by simp only; omega)], hb1, hp1, rfl, rfl⟩
    rintro Γ H ⟨hΓ, r3, x3, he3, hb3, hp3, hf3, rfl⟩
    refine wp_has hΓ ?_
    have hf3 : x3.f < 4294967296 := by rw [hf3]; exact hf1
    refine wp_cut (fun Γ H => Has Γ [(0, .pointer (some ⟨pr, 0, none⟩)), (2, .pointer (some ⟨b2, 0, none⟩)), (3, .pointer (some ⟨b3, 0, none⟩))] ∧ ∃ r' x', (r', x') = R.s2 (r3, x3) ∧ r'.b = r.b ∧ r'.pos ≤ r.b.length ∧ x'.f = x3.f ∧ H = [rq pr (.slice p r.b.length c) (r'), V, own b3 (.cells (x').cs.toArray 30 (0, 0)), own b2 (.cells At.zero.cs.toArray 30 (0, 0))]) ?_ ?_
    · refine wp_seq' ?_
      refine wp_region' ?_
      refine ops_ro' rfl (ro_fieldAddr fa30_0 rfl) rfl ?_
      refine ops_ro' rfl (ro_load sc27 rfl (by first | exact Rd.pick 0 rfl (by first | exact Rd.own rfl | exact Rd.row rfl) | exact Rd.pick 1 rfl (by first | exact Rd.own rfl | exact Rd.row rfl) | exact Rd.pick 2 rfl (by first | exact Rd.own rfl | exact Rd.row rfl) | exact Rd.pick 3 rfl (by first | exact Rd.own rfl | exact Rd.row rfl) | exact Rd.pick 4 rfl (by first | exact Rd.own rfl | exact Rd.row rfl) | exact Rd.pick 5 rfl (by first | exact Rd.own rfl | exact Rd.row rfl) | exact Rd.pick 6 rfl (by first | exact Rd.own rfl | exact Rd.row rfl) | exact Rd.pick 7 rfl (by first | exact Rd.own rfl | exact Rd.row rfl))) rfl ?_
      refine ops_ro' rfl (ro_and rfl rfl (and32 hf3 (c := 2) (by decide) rfl)) rfl ?_
      refine ops_ro' rfl (ro_neq rfl rfl rfl) rfl ?_
      refine ops_nil ?_
      repeat (first | refine InBlock_normal ?_ | refine NoGoto_normal ?_ | refine Jump_normal ?_)
      refine Then_normal ?_
      refine wp_cond' rfl (fun hc2 => ?_) (fun hc2 => ?_)
      · try replace hc2 := of_decide_eq_true hc2
        refine wp_seq' ?_
        refine wp_region' ?_
        refine ops_ro' rfl (ro_move rfl) rfl ?_
        refine ops_eff' rfl (eff_call Try.call84 rfl rfl (Split.cons 0 rfl (Split.cons 0 rfl (Split.nil _))) (q32_of pr p c (r3) _ (by simp only [hb3]) V (by simp only [hb3]; exact hV) hcap hl (by rw [hb3]; exact hp3))) rfl ?_
        rintro _ H' ⟨_, ⟨rfl, rfl⟩, hH⟩
        simp only [List.cons_append, List.nil_append, List.eraseIdx_cons_zero, List.eraseIdx_cons_succ, List.set_cons_zero, List.set_cons_succ] at hH
        subst hH
        refine ops_ro' rfl (ro_fieldAddr fa30_2 rfl) rfl ?_
        refine ops_eff0 rfl ((by first | exact eff_store 0 sc27 rfl rfl rfl rfl (Nat.le_of_ble_eq_true rfl) (warm_zero _) | exact eff_store 1 sc27 rfl rfl rfl rfl (Nat.le_of_ble_eq_true rfl) (warm_zero _) | exact eff_store 2 sc27 rfl rfl rfl rfl (Nat.le_of_ble_eq_true rfl) (warm_zero _) | exact eff_store 3 sc27 rfl rfl rfl rfl (Nat.le_of_ble_eq_true rfl) (warm_zero _) | exact eff_store 4 sc27 rfl rfl rfl rfl (Nat.le_of_ble_eq_true rfl) (warm_zero _) | exact eff_store 5 sc27 rfl rfl rfl rfl (Nat.le_of_ble_eq_true rfl) (warm_zero _) | exact eff_store 6 sc27 rfl rfl rfl rfl (Nat.le_of_ble_eq_true rfl) (warm_zero _) | exact eff_store 7 sc27 rfl rfl rfl rfl (Nat.le_of_ble_eq_true rfl) (warm_zero _))) rfl ?_
        rintro _ _ rfl
        refine ops_nil ?_
        repeat (first | refine InBlock_normal ?_ | refine NoGoto_normal ?_ | refine Jump_normal ?_)
        refine Then_normal ?_
        refine wp_region' ?_
        refine ops_ro' rfl (ro_move rfl) rfl ?_
        refine ops_eff' rfl (eff_call Try.call84 rfl rfl (Split.cons 0 rfl (Split.cons 0 rfl (Split.nil _))) (q32_of pr p c (((r3).get 4).1) _ (by simp only [get_b, hb3]) V (by simp only [get_b, hb3]; exact hV) hcap hl (by have := get_pos r3 4 (by rw [hb3]; exact hp3); simp only [get_b, hb3] at this ⊢; exact this))) rfl ?_
        rintro _ H' ⟨_, ⟨rfl, rfl⟩, hH⟩
        simp only [List.cons_append, List.nil_append, List.eraseIdx_cons_zero, List.eraseIdx_cons_succ, List.set_cons_zero, List.set_cons_succ] at hH
        subst hH
        refine ops_ro' rfl (ro_fieldAddr fa30_3 rfl) rfl ?_
        refine ops_eff0 rfl ((by first | exact eff_store 0 sc27 rfl rfl rfl rfl (Nat.le_of_ble_eq_true rfl) (warm_zero _) | exact eff_store 1 sc27 rfl rfl rfl rfl (Nat.le_of_ble_eq_true rfl) (warm_zero _) | exact eff_store 2 sc27 rfl rfl rfl rfl (Nat.le_of_ble_eq_true rfl) (warm_zero _) | exact eff_store 3 sc27 rfl rfl rfl rfl (Nat.le_of_ble_eq_true rfl) (warm_zero _) | exact eff_store 4 sc27 rfl rfl rfl rfl (Nat.le_of_ble_eq_true rfl) (warm_zero _) | exact eff_store 5 sc27 rfl rfl rfl rfl (Nat.le_of_ble_eq_true rfl) (warm_zero _) | exact eff_store 6 sc27 rfl rfl rfl rfl (Nat.le_of_ble_eq_true rfl) (warm_zero _) | exact eff_store 7 sc27 rfl rfl rfl rfl (Nat.le_of_ble_eq_true rfl) (warm_zero _))) rfl ?_
        rintro _ _ rfl
        refine ops_nil ?_
        repeat (first | refine InBlock_normal ?_ | refine NoGoto_normal ?_ | refine Jump_normal ?_)
        refine Then_normal ?_
        refine ⟨Has.cons rfl (Has.cons rfl (Has.cons rfl (Has.nil _))), ((r3.get 4).1.get 4).1, { x3 with u := ((r3).get 4).2, g := ((((r3).get 4).1).get 4).2 }, by rw [R.s2, if_pos (by simp only; omega)], (by simp only [get_b, hb3]), (by have h1 := get_pos r3 4 (by rw [hb3]; exact hp3); have := get_pos (r3.get 4).1 4 (by rw [get_b]; exact h1); rwa [get_b, hb3] at this), rfl, rfl⟩
      · try replace hc2 := of_decide_eq_false hc2
        refine wp_skip' ?_
        repeat (first | refine InBlock_normal ?_ | refine NoGoto_normal ?_ | refine Jump_normal ?_)
        refine Then_normal ?_
        refine ⟨Has.cons rfl (Has.cons rfl (Has.cons rfl (Has.nil _))), r3, x3, by rw [R.s2, if_neg (by simp only; omega)], hb3, hp3, rfl, rfl⟩
    rintro Γ H ⟨hΓ, r4, x4, he4, hb4, hp4, hf4, rfl⟩
    refine wp_has hΓ ?_
    have hf4 : x4.f < 4294967296 := by rw [hf4]; exact hf3
    refine wp_cut (fun Γ H => Has Γ [(0, .pointer (some ⟨pr, 0, none⟩)), (2, .pointer (some ⟨b2, 0, none⟩)), (3, .pointer (some ⟨b3, 0, none⟩))] ∧ ∃ r' x', (r', x') = R.s3 (r4, x4) ∧ r'.b = r.b ∧ r'.pos ≤ r.b.length ∧ x'.f = x4.f ∧ H = [rq pr (.slice p r.b.length c) (r'), V, own b3 (.cells (x').cs.toArray 30 (0, 0)), own b2 (.cells At.zero.cs.toArray 30 (0, 0))]) ?_ ?_
    · refine wp_seq' ?_
      refine wp_region' ?_
      refine ops_ro' rfl (ro_fieldAddr fa30_0 rfl) rfl ?_
      refine ops_ro' rfl (ro_load sc27 rfl (by first | exact Rd.pick 0 rfl (by first | exact Rd.own rfl | exact Rd.row rfl) | exact Rd.pick 1 rfl (by first | exact Rd.own rfl | exact Rd.row rfl) | exact Rd.pick 2 rfl (by first | exact Rd.own rfl | exact Rd.row rfl) | exact Rd.pick 3 rfl (by first | exact Rd.own rfl | exact Rd.row rfl) | exact Rd.pick 4 rfl (by first | exact Rd.own rfl | exact Rd.row rfl) | exact Rd.pick 5 rfl (by first | exact Rd.own rfl | exact Rd.row rfl) | exact Rd.pick 6 rfl (by first | exact Rd.own rfl | exact Rd.row rfl) | exact Rd.pick 7 rfl (by first | exact Rd.own rfl | exact Rd.row rfl))) rfl ?_
      refine ops_ro' rfl (ro_and rfl rfl (and32 hf4 (c := 4) (by decide) rfl)) rfl ?_
      refine ops_ro' rfl (ro_neq rfl rfl rfl) rfl ?_
      refine ops_nil ?_
      repeat (first | refine InBlock_normal ?_ | refine NoGoto_normal ?_ | refine Jump_normal ?_)
      refine Then_normal ?_
      refine wp_cond' rfl (fun hc3 => ?_) (fun hc3 => ?_)
      · try replace hc3 := of_decide_eq_true hc3
        refine wp_region' ?_
        refine ops_ro' rfl (ro_move rfl) rfl ?_
        refine ops_eff' rfl (eff_call Try.call84 rfl rfl (Split.cons 0 rfl (Split.cons 0 rfl (Split.nil _))) (q32_of pr p c (r4) _ (by simp only [hb4]) V (by simp only [hb4]; exact hV) hcap hl (by rw [hb4]; exact hp4))) rfl ?_
        rintro _ H' ⟨_, ⟨rfl, rfl⟩, hH⟩
        simp only [List.cons_append, List.nil_append, List.eraseIdx_cons_zero, List.eraseIdx_cons_succ, List.set_cons_zero, List.set_cons_succ] at hH
        subst hH
        refine ops_ro' rfl (ro_fieldAddr fa30_4 rfl) rfl ?_
        refine ops_eff0 rfl ((by first | exact eff_store 0 sc27 rfl rfl rfl rfl (Nat.le_of_ble_eq_true rfl) (warm_zero _) | exact eff_store 1 sc27 rfl rfl rfl rfl (Nat.le_of_ble_eq_true rfl) (warm_zero _) | exact eff_store 2 sc27 rfl rfl rfl rfl (Nat.le_of_ble_eq_true rfl) (warm_zero _) | exact eff_store 3 sc27 rfl rfl rfl rfl (Nat.le_of_ble_eq_true rfl) (warm_zero _) | exact eff_store 4 sc27 rfl rfl rfl rfl (Nat.le_of_ble_eq_true rfl) (warm_zero _) | exact eff_store 5 sc27 rfl rfl rfl rfl (Nat.le_of_ble_eq_true rfl) (warm_zero _) | exact eff_store 6 sc27 rfl rfl rfl rfl (Nat.le_of_ble_eq_true rfl) (warm_zero _) | exact eff_store 7 sc27 rfl rfl rfl rfl (Nat.le_of_ble_eq_true rfl) (warm_zero _))) rfl ?_
        rintro _ _ rfl
        refine ops_nil ?_
        repeat (first | refine InBlock_normal ?_ | refine NoGoto_normal ?_ | refine Jump_normal ?_)
        refine Then_normal ?_
        refine ⟨Has.cons rfl (Has.cons rfl (Has.cons rfl (Has.nil _))), (r4.get 4).1, { x4 with m := ((r4).get 4).2 }, by rw [R.s3, if_pos (by simp only; omega)], (by simp only [get_b, hb4]), (by have := get_pos r4 4 (by rw [hb4]; exact hp4); rwa [hb4] at this), rfl, rfl⟩
      · try replace hc3 := of_decide_eq_false hc3
        refine wp_skip' ?_
        repeat (first | refine InBlock_normal ?_ | refine NoGoto_normal ?_ | refine Jump_normal ?_)
        refine Then_normal ?_
        refine ⟨Has.cons rfl (Has.cons rfl (Has.cons rfl (Has.nil _))), r4, x4, by rw [R.s3, if_neg (by simp only; omega)], hb4, hp4, rfl, rfl⟩
    rintro Γ H ⟨hΓ, r5, x5, he5, hb5, hp5, hf5, rfl⟩
    refine wp_has hΓ ?_
    have hf5 : x5.f < 4294967296 := by rw [hf5]; exact hf4
    refine wp_cut (fun Γ H => Has Γ [(0, .pointer (some ⟨pr, 0, none⟩)), (2, .pointer (some ⟨b2, 0, none⟩)), (3, .pointer (some ⟨b3, 0, none⟩))] ∧ ∃ r' x', (r', x') = R.s4 (r5, x5) ∧ r'.b = r.b ∧ r'.pos ≤ r.b.length ∧ x'.f = x5.f ∧ H = [rq pr (.slice p r.b.length c) (r'), V, own b3 (.cells (x').cs.toArray 30 (0, 0)), own b2 (.cells At.zero.cs.toArray 30 (0, 0))]) ?_ ?_
    · refine wp_seq' ?_
      refine wp_region' ?_
      refine ops_ro' rfl (ro_fieldAddr fa30_0 rfl) rfl ?_
      refine ops_ro' rfl (ro_load sc27 rfl (by first | exact Rd.pick 0 rfl (by first | exact Rd.own rfl | exact Rd.row rfl) | exact Rd.pick 1 rfl (by first | exact Rd.own rfl | exact Rd.row rfl) | exact Rd.pick 2 rfl (by first | exact Rd.own rfl | exact Rd.row rfl) | exact Rd.pick 3 rfl (by first | exact Rd.own rfl | exact Rd.row rfl) | exact Rd.pick 4 rfl (by first | exact Rd.own rfl | exact Rd.row rfl) | exact Rd.pick 5 rfl (by first | exact Rd.own rfl | exact Rd.row rfl) | exact Rd.pick 6 rfl (by first | exact Rd.own rfl | exact Rd.row rfl) | exact Rd.pick 7 rfl (by first | exact Rd.own rfl | exact Rd.row rfl))) rfl ?_
      refine ops_ro' rfl (ro_and rfl rfl (and32 hf5 (c := 8) (by decide) rfl)) rfl ?_
      refine ops_ro' rfl (ro_neq rfl rfl rfl) rfl ?_
      refine ops_nil ?_
      repeat (first | refine InBlock_normal ?_ | refine NoGoto_normal ?_ | refine Jump_normal ?_)
      refine Then_normal ?_
      refine wp_cond' rfl (fun hc4 => ?_) (fun hc4 => ?_)
      · try replace hc4 := of_decide_eq_true hc4
        refine wp_seq' ?_
        refine wp_region' ?_
        refine ops_ro' rfl (ro_move rfl) rfl ?_
        refine ops_eff' rfl (eff_call Try.call84 rfl rfl (Split.cons 0 rfl (Split.cons 0 rfl (Split.nil _))) (q32_of pr p c (r5) _ (by simp only [hb5]) V (by simp only [hb5]; exact hV) hcap hl (by rw [hb5]; exact hp5))) rfl ?_
        rintro _ H' ⟨_, ⟨rfl, rfl⟩, hH⟩
        simp only [List.cons_append, List.nil_append, List.eraseIdx_cons_zero, List.eraseIdx_cons_succ, List.set_cons_zero, List.set_cons_succ] at hH
        subst hH
        refine ops_ro' rfl (ro_fieldAddr fa30_5 rfl) rfl ?_
        refine ops_eff0 rfl ((by first | exact eff_store 0 sc27 rfl rfl rfl rfl (Nat.le_of_ble_eq_true rfl) (warm_zero _) | exact eff_store 1 sc27 rfl rfl rfl rfl (Nat.le_of_ble_eq_true rfl) (warm_zero _) | exact eff_store 2 sc27 rfl rfl rfl rfl (Nat.le_of_ble_eq_true rfl) (warm_zero _) | exact eff_store 3 sc27 rfl rfl rfl rfl (Nat.le_of_ble_eq_true rfl) (warm_zero _) | exact eff_store 4 sc27 rfl rfl rfl rfl (Nat.le_of_ble_eq_true rfl) (warm_zero _) | exact eff_store 5 sc27 rfl rfl rfl rfl (Nat.le_of_ble_eq_true rfl) (warm_zero _) | exact eff_store 6 sc27 rfl rfl rfl rfl (Nat.le_of_ble_eq_true rfl) (warm_zero _) | exact eff_store 7 sc27 rfl rfl rfl rfl (Nat.le_of_ble_eq_true rfl) (warm_zero _))) rfl ?_
        rintro _ _ rfl
        refine ops_nil ?_
        repeat (first | refine InBlock_normal ?_ | refine NoGoto_normal ?_ | refine Jump_normal ?_)
        refine Then_normal ?_
        refine wp_region' ?_
        refine ops_ro' rfl (ro_move rfl) rfl ?_
        refine ops_eff' rfl (eff_call Try.call84 rfl rfl (Split.cons 0 rfl (Split.cons 0 rfl (Split.nil _))) (q32_of pr p c (((r5).get 4).1) _ (by simp only [get_b, hb5]) V (by simp only [get_b, hb5]; exact hV) hcap hl (by have := get_pos r5 4 (by rw [hb5]; exact hp5); simp only [get_b, hb5] at this ⊢; exact this))) rfl ?_
        rintro _ H' ⟨_, ⟨rfl, rfl⟩, hH⟩
        simp only [List.cons_append, List.nil_append, List.eraseIdx_cons_zero, List.eraseIdx_cons_succ, List.set_cons_zero, List.set_cons_succ] at hH
        subst hH
        refine ops_ro' rfl (ro_fieldAddr fa30_6 rfl) rfl ?_
        refine ops_eff0 rfl ((by first | exact eff_store 0 sc27 rfl rfl rfl rfl (Nat.le_of_ble_eq_true rfl) (warm_zero _) | exact eff_store 1 sc27 rfl rfl rfl rfl (Nat.le_of_ble_eq_true rfl) (warm_zero _) | exact eff_store 2 sc27 rfl rfl rfl rfl (Nat.le_of_ble_eq_true rfl) (warm_zero _) | exact eff_store 3 sc27 rfl rfl rfl rfl (Nat.le_of_ble_eq_true rfl) (warm_zero _) | exact eff_store 4 sc27 rfl rfl rfl rfl (Nat.le_of_ble_eq_true rfl) (warm_zero _) | exact eff_store 5 sc27 rfl rfl rfl rfl (Nat.le_of_ble_eq_true rfl) (warm_zero _) | exact eff_store 6 sc27 rfl rfl rfl rfl (Nat.le_of_ble_eq_true rfl) (warm_zero _) | exact eff_store 7 sc27 rfl rfl rfl rfl (Nat.le_of_ble_eq_true rfl) (warm_zero _))) rfl ?_
        rintro _ _ rfl
        refine ops_nil ?_
        repeat (first | refine InBlock_normal ?_ | refine NoGoto_normal ?_ | refine Jump_normal ?_)
        refine Then_normal ?_
        refine ⟨Has.cons rfl (Has.cons rfl (Has.cons rfl (Has.nil _))), ((r5.get 4).1.get 4).1, { x5 with a := ((r5).get 4).2, t := ((((r5).get 4).1).get 4).2 }, by rw [R.s4, if_pos (by simp only; omega)], (by simp only [get_b, hb5]), (by have h1 := get_pos r5 4 (by rw [hb5]; exact hp5); have := get_pos (r5.get 4).1 4 (by rw [get_b]; exact h1); rwa [get_b, hb5] at this), rfl, rfl⟩
      · try replace hc4 := of_decide_eq_false hc4
        refine wp_skip' ?_
        repeat (first | refine InBlock_normal ?_ | refine NoGoto_normal ?_ | refine Jump_normal ?_)
        refine Then_normal ?_
        refine ⟨Has.cons rfl (Has.cons rfl (Has.cons rfl (Has.nil _))), r5, x5, by rw [R.s4, if_neg (by simp only; omega)], hb5, hp5, rfl, rfl⟩
    rintro Γ H ⟨hΓ, r6, x6, he6, hb6, hp6, hf6, rfl⟩
    refine wp_has hΓ ?_
    have hf6 : x6.f < 4294967296 := by rw [hf6]; exact hf5
    refine wp_seq' ?_
    refine wp_seq' ?_
    unfold rq
    refine wp_region' ?_
    refine ops_ro' rfl (ro_move rfl) rfl ?_
    refine ops_ro' rfl (ro_nilCheck rfl) rfl ?_
    refine ops_ro' rfl (ro_fieldAddr fa120_2 rfl) rfl ?_
    refine ops_ro' rfl (ro_load sc4 rfl (by first | exact Rd.pick 0 rfl (by first | exact Rd.own rfl | exact Rd.row rfl) | exact Rd.pick 1 rfl (by first | exact Rd.own rfl | exact Rd.row rfl) | exact Rd.pick 2 rfl (by first | exact Rd.own rfl | exact Rd.row rfl) | exact Rd.pick 3 rfl (by first | exact Rd.own rfl | exact Rd.row rfl) | exact Rd.pick 4 rfl (by first | exact Rd.own rfl | exact Rd.row rfl) | exact Rd.pick 5 rfl (by first | exact Rd.own rfl | exact Rd.row rfl) | exact Rd.pick 6 rfl (by first | exact Rd.own rfl | exact Rd.row rfl) | exact Rd.pick 7 rfl (by first | exact Rd.own rfl | exact Rd.row rfl))) rfl ?_
    refine ops_nil ?_
    repeat (first | refine InBlock_normal ?_ | refine NoGoto_normal ?_ | refine Jump_normal ?_)
    refine Then_normal ?_
    refine wp_cond' rfl (fun hc5 => ?_) (fun hc5 => ?_)
    · try replace hc5 := of_decide_eq_true hc5
      refine wp_seq' ?_
      refine wp_region' ?_
      refine ops_ro' rfl (ro_build rfl (show Bld Try.prog 30 [] At.zero.v from bld_struct (cs := At.zero.cs) st30 rfl)) rfl ?_
      refine ops_eff0 rfl ((by first | exact eff_storeA 0 ag30 rfl rfl rfl rfl rfl (Nat.le_of_ble_eq_true rfl) (warm_zero _) | exact eff_storeA 1 ag30 rfl rfl rfl rfl rfl (Nat.le_of_ble_eq_true rfl) (warm_zero _) | exact eff_storeA 2 ag30 rfl rfl rfl rfl rfl (Nat.le_of_ble_eq_true rfl) (warm_zero _) | exact eff_storeA 3 ag30 rfl rfl rfl rfl rfl (Nat.le_of_ble_eq_true rfl) (warm_zero _) | exact eff_storeA 4 ag30 rfl rfl rfl rfl rfl (Nat.le_of_ble_eq_true rfl) (warm_zero _) | exact eff_storeA 5 ag30 rfl rfl rfl rfl rfl (Nat.le_of_ble_eq_true rfl) (warm_zero _) | exact eff_storeA 6 ag30 rfl rfl rfl rfl rfl (Nat.le_of_ble_eq_true rfl) (warm_zero _) | exact eff_storeA 7 ag30 rfl rfl rfl rfl rfl (Nat.le_of_ble_eq_true rfl) (warm_zero _))) rfl ?_
      rintro _ _ rfl
      refine ops_nil ?_
      repeat (first | refine InBlock_normal ?_ | refine NoGoto_normal ?_ | refine Jump_normal ?_)
      refine Then_normal ?_
      refine wp_ret' ?_
      repeat (first | refine Then_ret ?_ | refine InBlock_ret ?_ | refine NoGoto_ret ?_ | refine Jump_ret ?_)
      refine done_ret (resv1 rfl (rv_cellA ag30 rfl (by first | exact RdN.of_pick 0 rfl rdn_all | exact RdN.of_pick 1 rfl rdn_all | exact RdN.of_pick 2 rfl rdn_all | exact RdN.of_pick 3 rfl rdn_all | exact RdN.of_pick 4 rfl rdn_all | exact RdN.of_pick 5 rfl rdn_all | exact RdN.of_pick 6 rfl rdn_all | exact RdN.of_pick 7 rfl rdn_all) rfl)) ?_
      have e : r.attrs = (r6, At.zero) := by rw [attrs_q hx1 he1 he3 he4 he5 he6, if_pos hc5]
      rw [e]; exact ⟨rfl, _, _, rfl⟩
    · try replace hc5 := of_decide_eq_false hc5
      refine wp_skip' ?_
      repeat (first | refine InBlock_normal ?_ | refine NoGoto_normal ?_ | refine Jump_normal ?_)
      refine Then_normal ?_
      refine wp_seq' ?_
      refine wp_region' ?_
      refine ops_ro' rfl (ro_loadA ag30 rfl (by first | exact RdN.of_pick 0 rfl rdn_all | exact RdN.of_pick 1 rfl rdn_all | exact RdN.of_pick 2 rfl rdn_all | exact RdN.of_pick 3 rfl rdn_all | exact RdN.of_pick 4 rfl rdn_all | exact RdN.of_pick 5 rfl rdn_all | exact RdN.of_pick 6 rfl rdn_all | exact RdN.of_pick 7 rfl rdn_all) rfl) rfl ?_
      refine ops_eff0 rfl ((by first | exact eff_storeA 0 ag30 rfl rfl rfl rfl rfl (Nat.le_of_ble_eq_true rfl) (warm_zero _) | exact eff_storeA 1 ag30 rfl rfl rfl rfl rfl (Nat.le_of_ble_eq_true rfl) (warm_zero _) | exact eff_storeA 2 ag30 rfl rfl rfl rfl rfl (Nat.le_of_ble_eq_true rfl) (warm_zero _) | exact eff_storeA 3 ag30 rfl rfl rfl rfl rfl (Nat.le_of_ble_eq_true rfl) (warm_zero _) | exact eff_storeA 4 ag30 rfl rfl rfl rfl rfl (Nat.le_of_ble_eq_true rfl) (warm_zero _) | exact eff_storeA 5 ag30 rfl rfl rfl rfl rfl (Nat.le_of_ble_eq_true rfl) (warm_zero _) | exact eff_storeA 6 ag30 rfl rfl rfl rfl rfl (Nat.le_of_ble_eq_true rfl) (warm_zero _) | exact eff_storeA 7 ag30 rfl rfl rfl rfl rfl (Nat.le_of_ble_eq_true rfl) (warm_zero _))) rfl ?_
      rintro _ _ rfl
      refine ops_nil ?_
      repeat (first | refine InBlock_normal ?_ | refine NoGoto_normal ?_ | refine Jump_normal ?_)
      refine Then_normal ?_
      refine wp_ret' ?_
      repeat (first | refine Then_ret ?_ | refine InBlock_ret ?_ | refine NoGoto_ret ?_ | refine Jump_ret ?_)
      refine done_ret (resv1 rfl (rv_cellA ag30 rfl (by first | exact RdN.of_pick 0 rfl rdn_all | exact RdN.of_pick 1 rfl rdn_all | exact RdN.of_pick 2 rfl rdn_all | exact RdN.of_pick 3 rfl rdn_all | exact RdN.of_pick 4 rfl rdn_all | exact RdN.of_pick 5 rfl rdn_all | exact RdN.of_pick 6 rfl rdn_all | exact RdN.of_pick 7 rfl rdn_all) rfl)) ?_
      have e : r.attrs = (r6, x6) := by rw [attrs_q hx1 he1 he3 he4 he5 he6, if_neg hc5]
      rw [e]; exact ⟨rfl, _, _, rfl⟩
  · have hz : (r.get 4).2 = 0 := by
      unfold R.get R.take at hw ⊢
      split
      · rfl
      · split
        · rfl
        · split
          · rfl
          · rename_i a1 a2 a3; exact absurd (by rw [if_neg a1, if_neg a2, if_neg a3]; simpa using a1) hw
    refine tri_of_wp Try.func71 rfl Try.ntmps71 (by simp) ?_
    refine wp_seq' ?_
    refine wp_region' ?_
    refine ops_eff' rfl (eff_alloc z30) rfl ?_
    rintro _ _ ⟨b2, rfl, rfl⟩
    refine ops_nil ?_
    repeat (first | refine InBlock_normal ?_ | refine NoGoto_normal ?_ | refine Jump_normal ?_)
    refine Then_normal ?_
    refine wp_seq' ?_
    refine wp_region' ?_
    refine ops_ro' rfl (ro_move rfl) rfl ?_
    refine ops_eff' rfl (eff_call Try.call84 rfl rfl (Split.cons 1 rfl (Split.cons 1 rfl (Split.nil _))) (q32_spec pr p c r V hV hcap hl hp)) rfl ?_
    rintro _ H' ⟨_, ⟨rfl, rfl⟩, hH⟩
    simp only [List.cons_append, List.nil_append, List.eraseIdx_cons_zero, List.eraseIdx_cons_succ, List.set_cons_zero, List.set_cons_succ] at hH
    subst hH
    refine ops_ro' rfl (ro_build rfl (show Bld Try.prog 30 _ (At.v { At.zero with f := (r.get 4).2 }) from bld_struct (cs := At.cs { At.zero with f := (r.get 4).2 }) st30 rfl)) rfl ?_
    refine ops_eff' rfl (eff_alloc z30) rfl ?_
    rintro _ _ ⟨b3, rfl, rfl⟩
    refine ops_eff0 rfl ((by first | exact eff_storeA 0 ag30 rfl rfl rfl rfl rfl (Nat.le_of_ble_eq_true rfl) (warm_zero _) | exact eff_storeA 1 ag30 rfl rfl rfl rfl rfl (Nat.le_of_ble_eq_true rfl) (warm_zero _) | exact eff_storeA 2 ag30 rfl rfl rfl rfl rfl (Nat.le_of_ble_eq_true rfl) (warm_zero _) | exact eff_storeA 3 ag30 rfl rfl rfl rfl rfl (Nat.le_of_ble_eq_true rfl) (warm_zero _) | exact eff_storeA 4 ag30 rfl rfl rfl rfl rfl (Nat.le_of_ble_eq_true rfl) (warm_zero _) | exact eff_storeA 5 ag30 rfl rfl rfl rfl rfl (Nat.le_of_ble_eq_true rfl) (warm_zero _) | exact eff_storeA 6 ag30 rfl rfl rfl rfl rfl (Nat.le_of_ble_eq_true rfl) (warm_zero _) | exact eff_storeA 7 ag30 rfl rfl rfl rfl rfl (Nat.le_of_ble_eq_true rfl) (warm_zero _))) rfl ?_
    rintro _ _ rfl
    refine ops_front 2 rfl ?_
    refine ops_front 2 rfl ?_
    refine ops_nil ?_
    repeat (first | refine InBlock_normal ?_ | refine NoGoto_normal ?_ | refine Jump_normal ?_)
    refine Then_normal ?_
    refine wp_cut (fun Γ H => Has Γ [(0, .pointer (some ⟨pr, 0, none⟩)), (2, .pointer (some ⟨b2, 0, none⟩)), (3, .pointer (some ⟨b3, 0, none⟩))] ∧ ∃ r1, r1 = R.gate (r.get 4).1 (r.get 4).2 ∧ r1.b = r.b ∧ r1.pos ≤ r.b.length ∧ H = [rq pr (.slice p r.b.length c) (r1), V, own b3 (.cells ({ At.zero with f := (r.get 4).2 }).cs.toArray 30 (0, 0)), own b2 (.cells At.zero.cs.toArray 30 (0, 0))]) ?_ ?_
    · refine wp_seq' ?_
      rw [rq_yes hw]
      refine wp_region' ?_
      refine ops_ro' rfl (ro_move rfl) rfl ?_
      refine ops_ro' rfl (ro_nilCheck rfl) rfl ?_
      refine ops_ro' rfl (ro_fieldAddr fa120_2 rfl) rfl ?_
      refine ops_ro' rfl (ro_load sc4 rfl (by first | exact Rd.pick 0 rfl (by first | exact Rd.own rfl | exact Rd.row rfl) | exact Rd.pick 1 rfl (by first | exact Rd.own rfl | exact Rd.row rfl) | exact Rd.pick 2 rfl (by first | exact Rd.own rfl | exact Rd.row rfl) | exact Rd.pick 3 rfl (by first | exact Rd.own rfl | exact Rd.row rfl) | exact Rd.pick 4 rfl (by first | exact Rd.own rfl | exact Rd.row rfl) | exact Rd.pick 5 rfl (by first | exact Rd.own rfl | exact Rd.row rfl) | exact Rd.pick 6 rfl (by first | exact Rd.own rfl | exact Rd.row rfl) | exact Rd.pick 7 rfl (by first | exact Rd.own rfl | exact Rd.row rfl))) rfl ?_
      refine ops_ro' rfl (ro_not rfl (c := false) rfl) rfl ?_
      refine ops_ro' rfl (ro_move rfl) rfl ?_
      refine ops_skip rfl rfl ?_
      refine ops_skip rfl rfl ?_
      refine ops_skip rfl rfl ?_
      refine ops_ro' rfl (ro_pick rfl rfl) rfl ?_
      refine ops_nil ?_
      rw [← rq_yes hw]
      repeat (first | refine InBlock_normal ?_ | refine NoGoto_normal ?_ | refine Jump_normal ?_)
      refine Then_normal ?_
      refine wp_condF rfl ?_
      refine wp_skip' ?_
      repeat (first | refine InBlock_normal ?_ | refine NoGoto_normal ?_ | refine Jump_normal ?_)
      refine Then_normal ?_
      refine ⟨Has.cons rfl (Has.cons rfl (Has.cons rfl (Has.nil _))), (r.get 4).1, by rw [R.gate, if_neg (by omega)], get_b r 4, get_pos r 4 hp, rfl⟩
    rintro Γ H ⟨hΓ, r1, he1, hb1, hp1, rfl⟩
    refine wp_has hΓ ?_
    generalize hx1 : ({ At.zero with f := (r.get 4).2 } : At) = x1
    have hf1 : x1.f < 4294967296 := by rw [← hx1]; exact get_lt r 4
    refine wp_cut (fun Γ H => Has Γ [(0, .pointer (some ⟨pr, 0, none⟩)), (2, .pointer (some ⟨b2, 0, none⟩)), (3, .pointer (some ⟨b3, 0, none⟩))] ∧ ∃ r' x', (r', x') = R.s1 (r1, x1) ∧ r'.b = r.b ∧ r'.pos ≤ r.b.length ∧ x'.f = x1.f ∧ H = [rq pr (.slice p r.b.length c) (r'), V, own b3 (.cells (x').cs.toArray 30 (0, 0)), own b2 (.cells At.zero.cs.toArray 30 (0, 0))]) ?_ ?_
    · refine wp_seq' ?_
      refine wp_region' ?_
      refine ops_ro' rfl (ro_fieldAddr fa30_0 rfl) rfl ?_
      refine ops_ro' rfl (ro_load sc27 rfl (by first | exact Rd.pick 0 rfl (by first | exact Rd.own rfl | exact Rd.row rfl) | exact Rd.pick 1 rfl (by first | exact Rd.own rfl | exact Rd.row rfl) | exact Rd.pick 2 rfl (by first | exact Rd.own rfl | exact Rd.row rfl) | exact Rd.pick 3 rfl (by first | exact Rd.own rfl | exact Rd.row rfl) | exact Rd.pick 4 rfl (by first | exact Rd.own rfl | exact Rd.row rfl) | exact Rd.pick 5 rfl (by first | exact Rd.own rfl | exact Rd.row rfl) | exact Rd.pick 6 rfl (by first | exact Rd.own rfl | exact Rd.row rfl) | exact Rd.pick 7 rfl (by first | exact Rd.own rfl | exact Rd.row rfl))) rfl ?_
      refine ops_ro' rfl (ro_and rfl rfl (and32 hf1 (c := 1) (by decide) rfl)) rfl ?_
      refine ops_ro' rfl (ro_neq rfl rfl rfl) rfl ?_
      refine ops_nil ?_
      repeat (first | refine InBlock_normal ?_ | refine NoGoto_normal ?_ | refine Jump_normal ?_)
      refine Then_normal ?_
      refine wp_cond' rfl (fun hc1 => ?_) (fun hc1 => ?_)
      · try replace hc1 := of_decide_eq_true hc1
        refine wp_region' ?_
        refine ops_ro' rfl (ro_move rfl) rfl ?_
        refine ops_eff' rfl (eff_call Try.call86 rfl rfl (Split.cons 0 rfl (Split.cons 0 rfl (Split.nil _))) (q64_of pr p c (r1) _ (by simp only [hb1]) V (by simp only [hb1]; exact hV) hcap hl (by rw [hb1]; exact hp1))) rfl ?_
        rintro _ H' ⟨_, ⟨rfl, rfl⟩, hH⟩
        simp only [List.cons_append, List.nil_append, List.eraseIdx_cons_zero, List.eraseIdx_cons_succ, List.set_cons_zero, List.set_cons_succ] at hH
        subst hH
        refine ops_ro' rfl (ro_fieldAddr fa30_1 rfl) rfl ?_
        refine ops_eff0 rfl ((by first | exact eff_store 0 sc28 rfl rfl rfl rfl (Nat.le_of_ble_eq_true rfl) (warm_zero _) | exact eff_store 1 sc28 rfl rfl rfl rfl (Nat.le_of_ble_eq_true rfl) (warm_zero _) | exact eff_store 2 sc28 rfl rfl rfl rfl (Nat.le_of_ble_eq_true rfl) (warm_zero _) | exact eff_store 3 sc28 rfl rfl rfl rfl (Nat.le_of_ble_eq_true rfl) (warm_zero _) | exact eff_store 4 sc28 rfl rfl rfl rfl (Nat.le_of_ble_eq_true rfl) (warm_zero _) | exact eff_store 5 sc28 rfl rfl rfl rfl (Nat.le_of_ble_eq_true rfl) (warm_zero _) | exact eff_store 6 sc28 rfl rfl rfl rfl (Nat.le_of_ble_eq_true rfl) (warm_zero _) | exact eff_store 7 sc28 rfl rfl rfl rfl (Nat.le_of_ble_eq_true rfl) (warm_zero _))) rfl ?_
        rintro _ _ rfl
        refine ops_nil ?_
        repeat (first | refine InBlock_normal ?_ | refine NoGoto_normal ?_ | refine Jump_normal ?_)
        refine Then_normal ?_
        refine ⟨Has.cons rfl (Has.cons rfl (Has.cons rfl (Has.nil _))), (r1.get 8).1, { x1 with s := ((r1).get 8).2 }, by rw [R.s1, if_pos (by simp only; omega)], (by simp only [get_b, hb1]), (by have := get_pos r1 8 (by rw [hb1]; exact hp1); rwa [hb1] at this), rfl, rfl⟩
      · try replace hc1 := of_decide_eq_false hc1
        refine wp_skip' ?_
        repeat (first | refine InBlock_normal ?_ | refine NoGoto_normal ?_ | refine Jump_normal ?_)
        refine Then_normal ?_
        refine ⟨Has.cons rfl (Has.cons rfl (Has.cons rfl (Has.nil _))), r1, x1, by rw [R.s1, if_neg (by simp only; omega)], hb1, hp1, rfl, rfl⟩
    rintro Γ H ⟨hΓ, r3, x3, he3, hb3, hp3, hf3, rfl⟩
    refine wp_has hΓ ?_
    have hf3 : x3.f < 4294967296 := by rw [hf3]; exact hf1
    refine wp_cut (fun Γ H => Has Γ [(0, .pointer (some ⟨pr, 0, none⟩)), (2, .pointer (some ⟨b2, 0, none⟩)), (3, .pointer (some ⟨b3, 0, none⟩))] ∧ ∃ r' x', (r', x') = R.s2 (r3, x3) ∧ r'.b = r.b ∧ r'.pos ≤ r.b.length ∧ x'.f = x3.f ∧ H = [rq pr (.slice p r.b.length c) (r'), V, own b3 (.cells (x').cs.toArray 30 (0, 0)), own b2 (.cells At.zero.cs.toArray 30 (0, 0))]) ?_ ?_
    · refine wp_seq' ?_
      refine wp_region' ?_
      refine ops_ro' rfl (ro_fieldAddr fa30_0 rfl) rfl ?_
      refine ops_ro' rfl (ro_load sc27 rfl (by first | exact Rd.pick 0 rfl (by first | exact Rd.own rfl | exact Rd.row rfl) | exact Rd.pick 1 rfl (by first | exact Rd.own rfl | exact Rd.row rfl) | exact Rd.pick 2 rfl (by first | exact Rd.own rfl | exact Rd.row rfl) | exact Rd.pick 3 rfl (by first | exact Rd.own rfl | exact Rd.row rfl) | exact Rd.pick 4 rfl (by first | exact Rd.own rfl | exact Rd.row rfl) | exact Rd.pick 5 rfl (by first | exact Rd.own rfl | exact Rd.row rfl) | exact Rd.pick 6 rfl (by first | exact Rd.own rfl | exact Rd.row rfl) | exact Rd.pick 7 rfl (by first | exact Rd.own rfl | exact Rd.row rfl))) rfl ?_
      refine ops_ro' rfl (ro_and rfl rfl (and32 hf3 (c := 2) (by decide) rfl)) rfl ?_
      refine ops_ro' rfl (ro_neq rfl rfl rfl) rfl ?_
      refine ops_nil ?_
      repeat (first | refine InBlock_normal ?_ | refine NoGoto_normal ?_ | refine Jump_normal ?_)
      refine Then_normal ?_
      refine wp_cond' rfl (fun hc2 => ?_) (fun hc2 => ?_)
      · try replace hc2 := of_decide_eq_true hc2
        refine wp_seq' ?_
        refine wp_region' ?_
        refine ops_ro' rfl (ro_move rfl) rfl ?_
        refine ops_eff' rfl (eff_call Try.call84 rfl rfl (Split.cons 0 rfl (Split.cons 0 rfl (Split.nil _))) (q32_of pr p c (r3) _ (by simp only [hb3]) V (by simp only [hb3]; exact hV) hcap hl (by rw [hb3]; exact hp3))) rfl ?_
        rintro _ H' ⟨_, ⟨rfl, rfl⟩, hH⟩
        simp only [List.cons_append, List.nil_append, List.eraseIdx_cons_zero, List.eraseIdx_cons_succ, List.set_cons_zero, List.set_cons_succ] at hH
        subst hH
        refine ops_ro' rfl (ro_fieldAddr fa30_2 rfl) rfl ?_
        refine ops_eff0 rfl ((by first | exact eff_store 0 sc27 rfl rfl rfl rfl (Nat.le_of_ble_eq_true rfl) (warm_zero _) | exact eff_store 1 sc27 rfl rfl rfl rfl (Nat.le_of_ble_eq_true rfl) (warm_zero _) | exact eff_store 2 sc27 rfl rfl rfl rfl (Nat.le_of_ble_eq_true rfl) (warm_zero _) | exact eff_store 3 sc27 rfl rfl rfl rfl (Nat.le_of_ble_eq_true rfl) (warm_zero _) | exact eff_store 4 sc27 rfl rfl rfl rfl (Nat.le_of_ble_eq_true rfl) (warm_zero _) | exact eff_store 5 sc27 rfl rfl rfl rfl (Nat.le_of_ble_eq_true rfl) (warm_zero _) | exact eff_store 6 sc27 rfl rfl rfl rfl (Nat.le_of_ble_eq_true rfl) (warm_zero _) | exact eff_store 7 sc27 rfl rfl rfl rfl (Nat.le_of_ble_eq_true rfl) (warm_zero _))) rfl ?_
        rintro _ _ rfl
        refine ops_nil ?_
        repeat (first | refine InBlock_normal ?_ | refine NoGoto_normal ?_ | refine Jump_normal ?_)
        refine Then_normal ?_
        refine wp_region' ?_
        refine ops_ro' rfl (ro_move rfl) rfl ?_
        refine ops_eff' rfl (eff_call Try.call84 rfl rfl (Split.cons 0 rfl (Split.cons 0 rfl (Split.nil _))) (q32_of pr p c (((r3).get 4).1) _ (by simp only [get_b, hb3]) V (by simp only [get_b, hb3]; exact hV) hcap hl (by have := get_pos r3 4 (by rw [hb3]; exact hp3); simp only [get_b, hb3] at this ⊢; exact this))) rfl ?_
        rintro _ H' ⟨_, ⟨rfl, rfl⟩, hH⟩
        simp only [List.cons_append, List.nil_append, List.eraseIdx_cons_zero, List.eraseIdx_cons_succ, List.set_cons_zero, List.set_cons_succ] at hH
        subst hH
        refine ops_ro' rfl (ro_fieldAddr fa30_3 rfl) rfl ?_
        refine ops_eff0 rfl ((by first | exact eff_store 0 sc27 rfl rfl rfl rfl (Nat.le_of_ble_eq_true rfl) (warm_zero _) | exact eff_store 1 sc27 rfl rfl rfl rfl (Nat.le_of_ble_eq_true rfl) (warm_zero _) | exact eff_store 2 sc27 rfl rfl rfl rfl (Nat.le_of_ble_eq_true rfl) (warm_zero _) | exact eff_store 3 sc27 rfl rfl rfl rfl (Nat.le_of_ble_eq_true rfl) (warm_zero _) | exact eff_store 4 sc27 rfl rfl rfl rfl (Nat.le_of_ble_eq_true rfl) (warm_zero _) | exact eff_store 5 sc27 rfl rfl rfl rfl (Nat.le_of_ble_eq_true rfl) (warm_zero _) | exact eff_store 6 sc27 rfl rfl rfl rfl (Nat.le_of_ble_eq_true rfl) (warm_zero _) | exact eff_store 7 sc27 rfl rfl rfl rfl (Nat.le_of_ble_eq_true rfl) (warm_zero _))) rfl ?_
        rintro _ _ rfl
        refine ops_nil ?_
        repeat (first | refine InBlock_normal ?_ | refine NoGoto_normal ?_ | refine Jump_normal ?_)
        refine Then_normal ?_
        refine ⟨Has.cons rfl (Has.cons rfl (Has.cons rfl (Has.nil _))), ((r3.get 4).1.get 4).1, { x3 with u := ((r3).get 4).2, g := ((((r3).get 4).1).get 4).2 }, by rw [R.s2, if_pos (by simp only; omega)], (by simp only [get_b, hb3]), (by have h1 := get_pos r3 4 (by rw [hb3]; exact hp3); have := get_pos (r3.get 4).1 4 (by rw [get_b]; exact h1); rwa [get_b, hb3] at this), rfl, rfl⟩
      · try replace hc2 := of_decide_eq_false hc2
        refine wp_skip' ?_
        repeat (first | refine InBlock_normal ?_ | refine NoGoto_normal ?_ | refine Jump_normal ?_)
        refine Then_normal ?_
        refine ⟨Has.cons rfl (Has.cons rfl (Has.cons rfl (Has.nil _))), r3, x3, by rw [R.s2, if_neg (by simp only; omega)], hb3, hp3, rfl, rfl⟩
    rintro Γ H ⟨hΓ, r4, x4, he4, hb4, hp4, hf4, rfl⟩
    refine wp_has hΓ ?_
    have hf4 : x4.f < 4294967296 := by rw [hf4]; exact hf3
    refine wp_cut (fun Γ H => Has Γ [(0, .pointer (some ⟨pr, 0, none⟩)), (2, .pointer (some ⟨b2, 0, none⟩)), (3, .pointer (some ⟨b3, 0, none⟩))] ∧ ∃ r' x', (r', x') = R.s3 (r4, x4) ∧ r'.b = r.b ∧ r'.pos ≤ r.b.length ∧ x'.f = x4.f ∧ H = [rq pr (.slice p r.b.length c) (r'), V, own b3 (.cells (x').cs.toArray 30 (0, 0)), own b2 (.cells At.zero.cs.toArray 30 (0, 0))]) ?_ ?_
    · refine wp_seq' ?_
      refine wp_region' ?_
      refine ops_ro' rfl (ro_fieldAddr fa30_0 rfl) rfl ?_
      refine ops_ro' rfl (ro_load sc27 rfl (by first | exact Rd.pick 0 rfl (by first | exact Rd.own rfl | exact Rd.row rfl) | exact Rd.pick 1 rfl (by first | exact Rd.own rfl | exact Rd.row rfl) | exact Rd.pick 2 rfl (by first | exact Rd.own rfl | exact Rd.row rfl) | exact Rd.pick 3 rfl (by first | exact Rd.own rfl | exact Rd.row rfl) | exact Rd.pick 4 rfl (by first | exact Rd.own rfl | exact Rd.row rfl) | exact Rd.pick 5 rfl (by first | exact Rd.own rfl | exact Rd.row rfl) | exact Rd.pick 6 rfl (by first | exact Rd.own rfl | exact Rd.row rfl) | exact Rd.pick 7 rfl (by first | exact Rd.own rfl | exact Rd.row rfl))) rfl ?_
      refine ops_ro' rfl (ro_and rfl rfl (and32 hf4 (c := 4) (by decide) rfl)) rfl ?_
      refine ops_ro' rfl (ro_neq rfl rfl rfl) rfl ?_
      refine ops_nil ?_
      repeat (first | refine InBlock_normal ?_ | refine NoGoto_normal ?_ | refine Jump_normal ?_)
      refine Then_normal ?_
      refine wp_cond' rfl (fun hc3 => ?_) (fun hc3 => ?_)
      · try replace hc3 := of_decide_eq_true hc3
        refine wp_region' ?_
        refine ops_ro' rfl (ro_move rfl) rfl ?_
        refine ops_eff' rfl (eff_call Try.call84 rfl rfl (Split.cons 0 rfl (Split.cons 0 rfl (Split.nil _))) (q32_of pr p c (r4) _ (by simp only [hb4]) V (by simp only [hb4]; exact hV) hcap hl (by rw [hb4]; exact hp4))) rfl ?_
        rintro _ H' ⟨_, ⟨rfl, rfl⟩, hH⟩
        simp only [List.cons_append, List.nil_append, List.eraseIdx_cons_zero, List.eraseIdx_cons_succ, List.set_cons_zero, List.set_cons_succ] at hH
        subst hH
        refine ops_ro' rfl (ro_fieldAddr fa30_4 rfl) rfl ?_
        refine ops_eff0 rfl ((by first | exact eff_store 0 sc27 rfl rfl rfl rfl (Nat.le_of_ble_eq_true rfl) (warm_zero _) | exact eff_store 1 sc27 rfl rfl rfl rfl (Nat.le_of_ble_eq_true rfl) (warm_zero _) | exact eff_store 2 sc27 rfl rfl rfl rfl (Nat.le_of_ble_eq_true rfl) (warm_zero _) | exact eff_store 3 sc27 rfl rfl rfl rfl (Nat.le_of_ble_eq_true rfl) (warm_zero _) | exact eff_store 4 sc27 rfl rfl rfl rfl (Nat.le_of_ble_eq_true rfl) (warm_zero _) | exact eff_store 5 sc27 rfl rfl rfl rfl (Nat.le_of_ble_eq_true rfl) (warm_zero _) | exact eff_store 6 sc27 rfl rfl rfl rfl (Nat.le_of_ble_eq_true rfl) (warm_zero _) | exact eff_store 7 sc27 rfl rfl rfl rfl (Nat.le_of_ble_eq_true rfl) (warm_zero _))) rfl ?_
        rintro _ _ rfl
        refine ops_nil ?_
        repeat (first | refine InBlock_normal ?_ | refine NoGoto_normal ?_ | refine Jump_normal ?_)
        refine Then_normal ?_
        refine ⟨Has.cons rfl (Has.cons rfl (Has.cons rfl (Has.nil _))), (r4.get 4).1, { x4 with m := ((r4).get 4).2 }, by rw [R.s3, if_pos (by simp only; omega)], (by simp only [get_b, hb4]), (by have := get_pos r4 4 (by rw [hb4]; exact hp4); rwa [hb4] at this), rfl, rfl⟩
      · try replace hc3 := of_decide_eq_false hc3
        refine wp_skip' ?_
        repeat (first | refine InBlock_normal ?_ | refine NoGoto_normal ?_ | refine Jump_normal ?_)
        refine Then_normal ?_
        refine ⟨Has.cons rfl (Has.cons rfl (Has.cons rfl (Has.nil _))), r4, x4, by rw [R.s3, if_neg (by simp only; omega)], hb4, hp4, rfl, rfl⟩
    rintro Γ H ⟨hΓ, r5, x5, he5, hb5, hp5, hf5, rfl⟩
    refine wp_has hΓ ?_
    have hf5 : x5.f < 4294967296 := by rw [hf5]; exact hf4
    refine wp_cut (fun Γ H => Has Γ [(0, .pointer (some ⟨pr, 0, none⟩)), (2, .pointer (some ⟨b2, 0, none⟩)), (3, .pointer (some ⟨b3, 0, none⟩))] ∧ ∃ r' x', (r', x') = R.s4 (r5, x5) ∧ r'.b = r.b ∧ r'.pos ≤ r.b.length ∧ x'.f = x5.f ∧ H = [rq pr (.slice p r.b.length c) (r'), V, own b3 (.cells (x').cs.toArray 30 (0, 0)), own b2 (.cells At.zero.cs.toArray 30 (0, 0))]) ?_ ?_
    · refine wp_seq' ?_
      refine wp_region' ?_
      refine ops_ro' rfl (ro_fieldAddr fa30_0 rfl) rfl ?_
      refine ops_ro' rfl (ro_load sc27 rfl (by first | exact Rd.pick 0 rfl (by first | exact Rd.own rfl | exact Rd.row rfl) | exact Rd.pick 1 rfl (by first | exact Rd.own rfl | exact Rd.row rfl) | exact Rd.pick 2 rfl (by first | exact Rd.own rfl | exact Rd.row rfl) | exact Rd.pick 3 rfl (by first | exact Rd.own rfl | exact Rd.row rfl) | exact Rd.pick 4 rfl (by first | exact Rd.own rfl | exact Rd.row rfl) | exact Rd.pick 5 rfl (by first | exact Rd.own rfl | exact Rd.row rfl) | exact Rd.pick 6 rfl (by first | exact Rd.own rfl | exact Rd.row rfl) | exact Rd.pick 7 rfl (by first | exact Rd.own rfl | exact Rd.row rfl))) rfl ?_
      refine ops_ro' rfl (ro_and rfl rfl (and32 hf5 (c := 8) (by decide) rfl)) rfl ?_
      refine ops_ro' rfl (ro_neq rfl rfl rfl) rfl ?_
      refine ops_nil ?_
      repeat (first | refine InBlock_normal ?_ | refine NoGoto_normal ?_ | refine Jump_normal ?_)
      refine Then_normal ?_
      refine wp_cond' rfl (fun hc4 => ?_) (fun hc4 => ?_)
      · try replace hc4 := of_decide_eq_true hc4
        refine wp_seq' ?_
        refine wp_region' ?_
        refine ops_ro' rfl (ro_move rfl) rfl ?_
        refine ops_eff' rfl (eff_call Try.call84 rfl rfl (Split.cons 0 rfl (Split.cons 0 rfl (Split.nil _))) (q32_of pr p c (r5) _ (by simp only [hb5]) V (by simp only [hb5]; exact hV) hcap hl (by rw [hb5]; exact hp5))) rfl ?_
        rintro _ H' ⟨_, ⟨rfl, rfl⟩, hH⟩
        simp only [List.cons_append, List.nil_append, List.eraseIdx_cons_zero, List.eraseIdx_cons_succ, List.set_cons_zero, List.set_cons_succ] at hH
        subst hH
        refine ops_ro' rfl (ro_fieldAddr fa30_5 rfl) rfl ?_
        refine ops_eff0 rfl ((by first | exact eff_store 0 sc27 rfl rfl rfl rfl (Nat.le_of_ble_eq_true rfl) (warm_zero _) | exact eff_store 1 sc27 rfl rfl rfl rfl (Nat.le_of_ble_eq_true rfl) (warm_zero _) | exact eff_store 2 sc27 rfl rfl rfl rfl (Nat.le_of_ble_eq_true rfl) (warm_zero _) | exact eff_store 3 sc27 rfl rfl rfl rfl (Nat.le_of_ble_eq_true rfl) (warm_zero _) | exact eff_store 4 sc27 rfl rfl rfl rfl (Nat.le_of_ble_eq_true rfl) (warm_zero _) | exact eff_store 5 sc27 rfl rfl rfl rfl (Nat.le_of_ble_eq_true rfl) (warm_zero _) | exact eff_store 6 sc27 rfl rfl rfl rfl (Nat.le_of_ble_eq_true rfl) (warm_zero _) | exact eff_store 7 sc27 rfl rfl rfl rfl (Nat.le_of_ble_eq_true rfl) (warm_zero _))) rfl ?_
        rintro _ _ rfl
        refine ops_nil ?_
        repeat (first | refine InBlock_normal ?_ | refine NoGoto_normal ?_ | refine Jump_normal ?_)
        refine Then_normal ?_
        refine wp_region' ?_
        refine ops_ro' rfl (ro_move rfl) rfl ?_
        refine ops_eff' rfl (eff_call Try.call84 rfl rfl (Split.cons 0 rfl (Split.cons 0 rfl (Split.nil _))) (q32_of pr p c (((r5).get 4).1) _ (by simp only [get_b, hb5]) V (by simp only [get_b, hb5]; exact hV) hcap hl (by have := get_pos r5 4 (by rw [hb5]; exact hp5); simp only [get_b, hb5] at this ⊢; exact this))) rfl ?_
        rintro _ H' ⟨_, ⟨rfl, rfl⟩, hH⟩
        simp only [List.cons_append, List.nil_append, List.eraseIdx_cons_zero, List.eraseIdx_cons_succ, List.set_cons_zero, List.set_cons_succ] at hH
        subst hH
        refine ops_ro' rfl (ro_fieldAddr fa30_6 rfl) rfl ?_
        refine ops_eff0 rfl ((by first | exact eff_store 0 sc27 rfl rfl rfl rfl (Nat.le_of_ble_eq_true rfl) (warm_zero _) | exact eff_store 1 sc27 rfl rfl rfl rfl (Nat.le_of_ble_eq_true rfl) (warm_zero _) | exact eff_store 2 sc27 rfl rfl rfl rfl (Nat.le_of_ble_eq_true rfl) (warm_zero _) | exact eff_store 3 sc27 rfl rfl rfl rfl (Nat.le_of_ble_eq_true rfl) (warm_zero _) | exact eff_store 4 sc27 rfl rfl rfl rfl (Nat.le_of_ble_eq_true rfl) (warm_zero _) | exact eff_store 5 sc27 rfl rfl rfl rfl (Nat.le_of_ble_eq_true rfl) (warm_zero _) | exact eff_store 6 sc27 rfl rfl rfl rfl (Nat.le_of_ble_eq_true rfl) (warm_zero _) | exact eff_store 7 sc27 rfl rfl rfl rfl (Nat.le_of_ble_eq_true rfl) (warm_zero _))) rfl ?_
        rintro _ _ rfl
        refine ops_nil ?_
        repeat (first | refine InBlock_normal ?_ | refine NoGoto_normal ?_ | refine Jump_normal ?_)
        refine Then_normal ?_
        refine ⟨Has.cons rfl (Has.cons rfl (Has.cons rfl (Has.nil _))), ((r5.get 4).1.get 4).1, { x5 with a := ((r5).get 4).2, t := ((((r5).get 4).1).get 4).2 }, by rw [R.s4, if_pos (by simp only; omega)], (by simp only [get_b, hb5]), (by have h1 := get_pos r5 4 (by rw [hb5]; exact hp5); have := get_pos (r5.get 4).1 4 (by rw [get_b]; exact h1); rwa [get_b, hb5] at this), rfl, rfl⟩
      · try replace hc4 := of_decide_eq_false hc4
        refine wp_skip' ?_
        repeat (first | refine InBlock_normal ?_ | refine NoGoto_normal ?_ | refine Jump_normal ?_)
        refine Then_normal ?_
        refine ⟨Has.cons rfl (Has.cons rfl (Has.cons rfl (Has.nil _))), r5, x5, by rw [R.s4, if_neg (by simp only; omega)], hb5, hp5, rfl, rfl⟩
    rintro Γ H ⟨hΓ, r6, x6, he6, hb6, hp6, hf6, rfl⟩
    refine wp_has hΓ ?_
    have hf6 : x6.f < 4294967296 := by rw [hf6]; exact hf5
    refine wp_seq' ?_
    refine wp_seq' ?_
    unfold rq
    refine wp_region' ?_
    refine ops_ro' rfl (ro_move rfl) rfl ?_
    refine ops_ro' rfl (ro_nilCheck rfl) rfl ?_
    refine ops_ro' rfl (ro_fieldAddr fa120_2 rfl) rfl ?_
    refine ops_ro' rfl (ro_load sc4 rfl (by first | exact Rd.pick 0 rfl (by first | exact Rd.own rfl | exact Rd.row rfl) | exact Rd.pick 1 rfl (by first | exact Rd.own rfl | exact Rd.row rfl) | exact Rd.pick 2 rfl (by first | exact Rd.own rfl | exact Rd.row rfl) | exact Rd.pick 3 rfl (by first | exact Rd.own rfl | exact Rd.row rfl) | exact Rd.pick 4 rfl (by first | exact Rd.own rfl | exact Rd.row rfl) | exact Rd.pick 5 rfl (by first | exact Rd.own rfl | exact Rd.row rfl) | exact Rd.pick 6 rfl (by first | exact Rd.own rfl | exact Rd.row rfl) | exact Rd.pick 7 rfl (by first | exact Rd.own rfl | exact Rd.row rfl))) rfl ?_
    refine ops_nil ?_
    repeat (first | refine InBlock_normal ?_ | refine NoGoto_normal ?_ | refine Jump_normal ?_)
    refine Then_normal ?_
    refine wp_cond' rfl (fun hc5 => ?_) (fun hc5 => ?_)
    · try replace hc5 := of_decide_eq_true hc5
      refine wp_seq' ?_
      refine wp_region' ?_
      refine ops_ro' rfl (ro_build rfl (show Bld Try.prog 30 [] At.zero.v from bld_struct (cs := At.zero.cs) st30 rfl)) rfl ?_
      refine ops_eff0 rfl ((by first | exact eff_storeA 0 ag30 rfl rfl rfl rfl rfl (Nat.le_of_ble_eq_true rfl) (warm_zero _) | exact eff_storeA 1 ag30 rfl rfl rfl rfl rfl (Nat.le_of_ble_eq_true rfl) (warm_zero _) | exact eff_storeA 2 ag30 rfl rfl rfl rfl rfl (Nat.le_of_ble_eq_true rfl) (warm_zero _) | exact eff_storeA 3 ag30 rfl rfl rfl rfl rfl (Nat.le_of_ble_eq_true rfl) (warm_zero _) | exact eff_storeA 4 ag30 rfl rfl rfl rfl rfl (Nat.le_of_ble_eq_true rfl) (warm_zero _) | exact eff_storeA 5 ag30 rfl rfl rfl rfl rfl (Nat.le_of_ble_eq_true rfl) (warm_zero _) | exact eff_storeA 6 ag30 rfl rfl rfl rfl rfl (Nat.le_of_ble_eq_true rfl) (warm_zero _) | exact eff_storeA 7 ag30 rfl rfl rfl rfl rfl (Nat.le_of_ble_eq_true rfl) (warm_zero _))) rfl ?_
      rintro _ _ rfl
      refine ops_nil ?_
      repeat (first | refine InBlock_normal ?_ | refine NoGoto_normal ?_ | refine Jump_normal ?_)
      refine Then_normal ?_
      refine wp_ret' ?_
      repeat (first | refine Then_ret ?_ | refine InBlock_ret ?_ | refine NoGoto_ret ?_ | refine Jump_ret ?_)
      refine done_ret (resv1 rfl (rv_cellA ag30 rfl (by first | exact RdN.of_pick 0 rfl rdn_all | exact RdN.of_pick 1 rfl rdn_all | exact RdN.of_pick 2 rfl rdn_all | exact RdN.of_pick 3 rfl rdn_all | exact RdN.of_pick 4 rfl rdn_all | exact RdN.of_pick 5 rfl rdn_all | exact RdN.of_pick 6 rfl rdn_all | exact RdN.of_pick 7 rfl rdn_all) rfl)) ?_
      have e : r.attrs = (r6, At.zero) := by rw [attrs_q hx1 he1 he3 he4 he5 he6, if_pos hc5]
      rw [e]; exact ⟨rfl, _, _, rfl⟩
    · try replace hc5 := of_decide_eq_false hc5
      refine wp_skip' ?_
      repeat (first | refine InBlock_normal ?_ | refine NoGoto_normal ?_ | refine Jump_normal ?_)
      refine Then_normal ?_
      refine wp_seq' ?_
      refine wp_region' ?_
      refine ops_ro' rfl (ro_loadA ag30 rfl (by first | exact RdN.of_pick 0 rfl rdn_all | exact RdN.of_pick 1 rfl rdn_all | exact RdN.of_pick 2 rfl rdn_all | exact RdN.of_pick 3 rfl rdn_all | exact RdN.of_pick 4 rfl rdn_all | exact RdN.of_pick 5 rfl rdn_all | exact RdN.of_pick 6 rfl rdn_all | exact RdN.of_pick 7 rfl rdn_all) rfl) rfl ?_
      refine ops_eff0 rfl ((by first | exact eff_storeA 0 ag30 rfl rfl rfl rfl rfl (Nat.le_of_ble_eq_true rfl) (warm_zero _) | exact eff_storeA 1 ag30 rfl rfl rfl rfl rfl (Nat.le_of_ble_eq_true rfl) (warm_zero _) | exact eff_storeA 2 ag30 rfl rfl rfl rfl rfl (Nat.le_of_ble_eq_true rfl) (warm_zero _) | exact eff_storeA 3 ag30 rfl rfl rfl rfl rfl (Nat.le_of_ble_eq_true rfl) (warm_zero _) | exact eff_storeA 4 ag30 rfl rfl rfl rfl rfl (Nat.le_of_ble_eq_true rfl) (warm_zero _) | exact eff_storeA 5 ag30 rfl rfl rfl rfl rfl (Nat.le_of_ble_eq_true rfl) (warm_zero _) | exact eff_storeA 6 ag30 rfl rfl rfl rfl rfl (Nat.le_of_ble_eq_true rfl) (warm_zero _) | exact eff_storeA 7 ag30 rfl rfl rfl rfl rfl (Nat.le_of_ble_eq_true rfl) (warm_zero _))) rfl ?_
      rintro _ _ rfl
      refine ops_nil ?_
      repeat (first | refine InBlock_normal ?_ | refine NoGoto_normal ?_ | refine Jump_normal ?_)
      refine Then_normal ?_
      refine wp_ret' ?_
      repeat (first | refine Then_ret ?_ | refine InBlock_ret ?_ | refine NoGoto_ret ?_ | refine Jump_ret ?_)
      refine done_ret (resv1 rfl (rv_cellA ag30 rfl (by first | exact RdN.of_pick 0 rfl rdn_all | exact RdN.of_pick 1 rfl rdn_all | exact RdN.of_pick 2 rfl rdn_all | exact RdN.of_pick 3 rfl rdn_all | exact RdN.of_pick 4 rfl rdn_all | exact RdN.of_pick 5 rfl rdn_all | exact RdN.of_pick 6 rfl rdn_all | exact RdN.of_pick 7 rfl rdn_all) rfl)) ?_
      have e : r.attrs = (r6, x6) := by rw [attrs_q hx1 he1 he3 he4 he5 he6, if_neg hc5]
      rw [e]; exact ⟨rfl, _, _, rfl⟩
theorem qget_spec (pr : Nat) (p : Option Addr) (c : Nat) (r : R) (V : HProp) (hV : Vw V (.slice p r.b.length c) r.b.length (cel r.b)) (hcap : r.b.length ≤ c) (hl : r.b.length ≤ 140737488355328) (hp : r.pos ≤ r.b.length) :
    Tri Try.prog 71 [.pointer (some ⟨pr, 0, none⟩)] [rq pr (.slice p r.b.length c) r, V] (fun v H' => v = r.attrs.2.v ∧ H' = [rq pr (.slice p r.b.length c) r.attrs.1, V]) :=
  tri_weak (qget_run pr p c r V hV hcap hl hp) fun v H ⟨h1, A1, A2, h2⟩ => ⟨_, ⟨h1, rfl⟩, fun w F s => by subst h2; exact St_drop 2 (St_drop 2 s)⟩


def R.Fit (b : List UInt8) (r : R) : Prop := r.b = b ∧ r.pos ≤ b.length
theorem fit_get {b : List UInt8} {r : R} (h : r.Fit b) (n : Nat) : (r.get n).1.Fit b := ⟨by rw [get_b]; exact h.1, by have := get_pos r n (by rw [h.1]; exact h.2); rwa [h.1] at this⟩
theorem fit_attrs {b : List UInt8} {r : R} (h : r.Fit b) : r.attrs.1.Fit b := by
  have h1 := fit_get h 4
  have hg : (R.gate (r.get 4).1 (r.get 4).2).Fit b := by
    unfold R.gate; split
    · exact ⟨by rw [fail_b]; exact h1.1, by rw [fail_pos]; exact h1.2⟩
    · exact h1
  have a1 : ∀ q : R × At, q.1.Fit b → (R.s1 q).1.Fit b := fun q h => by unfold R.s1; split; exact fit_get h 8; exact h
  have a2 : ∀ q : R × At, q.1.Fit b → (R.s2 q).1.Fit b := fun q h => by unfold R.s2; split; exact fit_get (fit_get h 4) 4; exact h
  have a3 : ∀ q : R × At, q.1.Fit b → (R.s3 q).1.Fit b := fun q h => by unfold R.s3; split; exact fit_get h 4; exact h
  have a4 : ∀ q : R × At, q.1.Fit b → (R.s4 q).1.Fit b := fun q h => by unfold R.s4; split; exact fit_get (fit_get h 4) 4; exact h
  have hb : ∀ (q : R) (x : At), q.Fit b → (q.body x).1.Fit b := fun q x h => a4 _ (a3 _ (a2 _ (a1 _ h)))
  unfold R.attrs
  split
  · exact hg
  · split
    · exact hb _ _ hg
    · exact hb _ _ hg
theorem qend_at (pr : Nat) (p : Option Addr) (c : Nat) (r : R) {n : Nat} (hn : r.b.length = n) (hl : n ≤ 140737488355328) (hp : r.pos ≤ n) :
    Tri Try.prog 72 [.pointer (some ⟨pr, 0, none⟩)] [rq pr (.slice p n c) r] (fun v H' => v = .tuple #[.int .i64 r.fin.1, .int .i64 r.fin.2] ∧ H' = [rq pr (.slice p n c) r]) := by
  subst hn; exact qend_spec pr p c r hl hp
theorem same_run (V : HProp) (p : Option Addr) (c : Nat) (l : List UInt8) (hV : Vw V (.slice p l.length c) l.length (cel l)) (hcap : l.length ≤ c) (hl : l.length ≤ 140737488355328) :
    Tri Try.prog 42 [.slice p l.length c] [V] (fun v H' => v = .bool true ∧ V ∈ H') := by
  have hfit := fit_attrs (show (R.new l).Fit l from ⟨rfl, Nat.zero_le _⟩)
  have hfb : (R.new l).attrs.1.b.length = l.length := by rw [hfit.1]
  have hfl : (R.new l).attrs.1.b.length ≤ 140737488355328 := by rw [hfb]; exact hl
  have hfp2 := hfit.2
  have hfp : (R.new l).attrs.1.pos ≤ (R.new l).attrs.1.b.length := by rw [hfb]; exact hfp2
  refine tri_of_wp Try.func42 rfl Try.ntmps42 (by simp) ?_
  refine wp_seq' ?_
  refine wp_region' ?_
  refine ops_ro' rfl (ro_assign rfl) rfl ?_
  refine ops_nil ?_
  repeat (first | refine InBlock_normal ?_ | refine NoGoto_normal ?_ | refine Jump_normal ?_)
  refine Then_normal ?_
  refine wp_seq' ?_
  refine wp_region' ?_
  refine ops_ro' rfl (ro_move rfl) rfl ?_
  refine ops_eff' rfl (eff_call Try.call34 rfl rfl (Split.cons 0 rfl (Split.nil _)) (newReader_spec V p c l hV hl)) rfl ?_
  rintro _ H' ⟨_, ⟨pr, p2, c2, rfl, rfl⟩, hH⟩
  simp only [List.cons_append, List.nil_append, List.eraseIdx_cons_zero, List.eraseIdx_cons_succ, List.set_cons_zero, List.set_cons_succ] at hH
  subst hH
  refine ops_ro' rfl (ro_assign rfl) rfl ?_
  refine ops_nil ?_
  repeat (first | refine InBlock_normal ?_ | refine NoGoto_normal ?_ | refine Jump_normal ?_)
  refine Then_normal ?_
  refine wp_seq' ?_
  refine wp_region' ?_
  refine ops_ro' rfl (ro_move rfl) rfl ?_
  refine ops_ro' rfl (ro_build rfl (bld_struct (cs := [.slice p l.length c, .int .i64 0, .bool false, .int .i64 0, .int .i64 0]) st120 rfl)) rfl ?_
  refine ops_eff' rfl (eff_box rfl) rfl ?_
  rintro _ _ ⟨b15, rfl, rfl⟩
  refine ops_ro' rfl (ro_assign rfl) rfl ?_
  refine ops_nil ?_
  repeat (first | refine InBlock_normal ?_ | refine NoGoto_normal ?_ | refine Jump_normal ?_)
  refine Then_normal ?_
  refine wp_seq' ?_
  refine wp_seq' ?_
  refine wp_region' ?_
  refine ops_ro' rfl (ro_move rfl) rfl ?_
  refine ops_ro' rfl (ro_ptrEqlNil Try.underlying66 rfl rfl rfl) rfl ?_
  refine ops_nil ?_
  repeat (first | refine InBlock_normal ?_ | refine NoGoto_normal ?_ | refine Jump_normal ?_)
  refine Then_normal ?_
  refine wp_condF rfl ?_
  refine wp_skip' ?_
  repeat (first | refine InBlock_normal ?_ | refine NoGoto_normal ?_ | refine Jump_normal ?_)
  refine Then_normal ?_
  refine wp_seq' ?_
  refine wp_region' ?_
  refine ops_ro' rfl (ro_move rfl) rfl ?_
  refine ops_eff' rfl (eff_call Try.call36 rfl rfl (Split.cons 1 rfl (Split.cons 1 rfl (Split.nil _))) (aget_spec pr p2 c2 (R.new l) hl (Nat.zero_le _))) rfl ?_
  rintro _ H' ⟨_, ⟨rfl, rfl⟩, hH⟩
  simp only [List.cons_append, List.nil_append, List.eraseIdx_cons_zero, List.eraseIdx_cons_succ, List.set_cons_zero, List.set_cons_succ] at hH
  subst hH
  refine ops_eff' rfl (eff_alloc z30) rfl ?_
  rintro _ _ ⟨b5, rfl, rfl⟩
  refine ops_eff0 rfl ((by first | exact eff_storeA 0 ag30 rfl rfl rfl rfl rfl (Nat.le_of_ble_eq_true rfl) (warm_zero _) | exact eff_storeA 1 ag30 rfl rfl rfl rfl rfl (Nat.le_of_ble_eq_true rfl) (warm_zero _) | exact eff_storeA 2 ag30 rfl rfl rfl rfl rfl (Nat.le_of_ble_eq_true rfl) (warm_zero _) | exact eff_storeA 3 ag30 rfl rfl rfl rfl rfl (Nat.le_of_ble_eq_true rfl) (warm_zero _) | exact eff_storeA 4 ag30 rfl rfl rfl rfl rfl (Nat.le_of_ble_eq_true rfl) (warm_zero _) | exact eff_storeA 5 ag30 rfl rfl rfl rfl rfl (Nat.le_of_ble_eq_true rfl) (warm_zero _) | exact eff_storeA 6 ag30 rfl rfl rfl rfl rfl (Nat.le_of_ble_eq_true rfl) (warm_zero _) | exact eff_storeA 7 ag30 rfl rfl rfl rfl rfl (Nat.le_of_ble_eq_true rfl) (warm_zero _))) rfl ?_
  rintro _ _ rfl
  refine ops_nil ?_
  repeat (first | refine InBlock_normal ?_ | refine NoGoto_normal ?_ | refine Jump_normal ?_)
  refine Then_normal ?_
  refine wp_seq' ?_
  refine wp_region' ?_
  refine ops_ro' rfl (ro_move rfl) rfl ?_
  refine ops_eff' rfl (eff_call Try.call71 rfl rfl (Split.cons 3 rfl (Split.cons 3 rfl (Split.nil _))) (qget_spec b15 p c (R.new l) V hV hcap hl (Nat.zero_le _))) rfl ?_
  rintro _ H' ⟨_, ⟨rfl, rfl⟩, hH⟩
  simp only [List.cons_append, List.nil_append, List.eraseIdx_cons_zero, List.eraseIdx_cons_succ, List.set_cons_zero, List.set_cons_succ] at hH
  subst hH
  refine ops_eff' rfl (eff_alloc z30) rfl ?_
  rintro _ _ ⟨b6, rfl, rfl⟩
  refine ops_eff0 rfl ((by first | exact eff_storeA 0 ag30 rfl rfl rfl rfl rfl (Nat.le_of_ble_eq_true rfl) (warm_zero _) | exact eff_storeA 1 ag30 rfl rfl rfl rfl rfl (Nat.le_of_ble_eq_true rfl) (warm_zero _) | exact eff_storeA 2 ag30 rfl rfl rfl rfl rfl (Nat.le_of_ble_eq_true rfl) (warm_zero _) | exact eff_storeA 3 ag30 rfl rfl rfl rfl rfl (Nat.le_of_ble_eq_true rfl) (warm_zero _) | exact eff_storeA 4 ag30 rfl rfl rfl rfl rfl (Nat.le_of_ble_eq_true rfl) (warm_zero _) | exact eff_storeA 5 ag30 rfl rfl rfl rfl rfl (Nat.le_of_ble_eq_true rfl) (warm_zero _) | exact eff_storeA 6 ag30 rfl rfl rfl rfl rfl (Nat.le_of_ble_eq_true rfl) (warm_zero _) | exact eff_storeA 7 ag30 rfl rfl rfl rfl rfl (Nat.le_of_ble_eq_true rfl) (warm_zero _))) rfl ?_
  rintro _ _ rfl
  refine ops_nil ?_
  repeat (first | refine InBlock_normal ?_ | refine NoGoto_normal ?_ | refine Jump_normal ?_)
  refine Then_normal ?_
  refine wp_seq' ?_
  refine wp_region' ?_
  refine ops_ro' rfl (ro_move rfl) rfl ?_
  refine ops_eff' rfl (eff_call Try.call45 rfl rfl (Split.cons 4 rfl (Split.cons 4 rfl (Split.nil _))) (end_spec pr p2 c2 _ hfl hfp)) rfl ?_
  rintro _ H' ⟨_, ⟨rfl, rfl⟩, hH⟩
  simp only [List.cons_append, List.nil_append, List.eraseIdx_cons_zero, List.eraseIdx_cons_succ, List.set_cons_zero, List.set_cons_succ] at hH
  subst hH
  refine ops_ro' rfl (ro_move rfl) rfl ?_
  refine ops_ro' rfl (ro_extract rfl rfl) rfl ?_
  refine ops_ro' rfl (ro_extract rfl rfl) rfl ?_
  refine ops_ro' rfl (ro_assign rfl) rfl ?_
  refine ops_ro' rfl (ro_assign rfl) rfl ?_
  refine ops_nil ?_
  repeat (first | refine InBlock_normal ?_ | refine NoGoto_normal ?_ | refine Jump_normal ?_)
  refine Then_normal ?_
  refine wp_seq' ?_
  refine wp_region' ?_
  refine ops_ro' rfl (ro_move rfl) rfl ?_
  refine ops_eff' rfl (eff_call Try.call72 rfl rfl (Split.cons 3 rfl (Split.nil _)) (qend_at b15 p c _ hfb hl hfp2)) rfl ?_
  rintro _ H' ⟨_, ⟨rfl, rfl⟩, hH⟩
  simp only [List.cons_append, List.nil_append, List.eraseIdx_cons_zero, List.eraseIdx_cons_succ, List.set_cons_zero, List.set_cons_succ] at hH
  subst hH
  refine ops_ro' rfl (ro_move rfl) rfl ?_
  refine ops_ro' rfl (ro_extract rfl rfl) rfl ?_
  refine ops_ro' rfl (ro_extract rfl rfl) rfl ?_
  refine ops_ro' rfl (ro_assign rfl) rfl ?_
  refine ops_ro' rfl (ro_assign rfl) rfl ?_
  refine ops_nil ?_
  repeat (first | refine InBlock_normal ?_ | refine NoGoto_normal ?_ | refine Jump_normal ?_)
  refine Then_normal ?_
  refine wp_seq' ?_
  refine wp_region' ?_
  refine ops_ro' rfl (ro_loadA ag30 rfl (by first | exact RdN.of_pick 0 rfl rdn_all | exact RdN.of_pick 1 rfl rdn_all | exact RdN.of_pick 2 rfl rdn_all | exact RdN.of_pick 3 rfl rdn_all | exact RdN.of_pick 4 rfl rdn_all | exact RdN.of_pick 5 rfl rdn_all | exact RdN.of_pick 6 rfl rdn_all | exact RdN.of_pick 7 rfl rdn_all) rfl) rfl ?_
  refine ops_ro' rfl (ro_loadA ag30 rfl (by first | exact RdN.of_pick 0 rfl rdn_all | exact RdN.of_pick 1 rfl rdn_all | exact RdN.of_pick 2 rfl rdn_all | exact RdN.of_pick 3 rfl rdn_all | exact RdN.of_pick 4 rfl rdn_all | exact RdN.of_pick 5 rfl rdn_all | exact RdN.of_pick 6 rfl rdn_all | exact RdN.of_pick 7 rfl rdn_all) rfl) rfl ?_
  refine ops_ro' rfl (ro_attrEq rfl rfl (c := true) (by simp)) rfl ?_
  refine ops_ro' rfl (ro_move rfl) rfl ?_
  refine ops_ro' rfl (ro_move rfl) rfl ?_
  refine ops_ro' rfl (ro_move rfl) rfl ?_
  refine ops_ro' rfl (ro_eql rfl rfl (decide_eq_true rfl)) rfl ?_
  refine ops_ro' rfl (ro_pick rfl rfl) rfl ?_
  refine ops_ro' rfl (ro_move rfl) rfl ?_
  refine ops_ro' rfl (ro_move rfl) rfl ?_
  refine ops_ro' rfl (ro_move rfl) rfl ?_
  refine ops_ro' rfl (ro_eql rfl rfl (decide_eq_true rfl)) rfl ?_
  refine ops_ro' rfl (ro_pick rfl rfl) rfl ?_
  refine ops_ro' rfl (ro_assign rfl) rfl ?_
  refine ops_nil ?_
  repeat (first | refine InBlock_normal ?_ | refine NoGoto_normal ?_ | refine Jump_normal ?_)
  refine Then_normal ?_
  refine wp_ret' ?_
  repeat (first | refine Then_ret ?_ | refine InBlock_ret ?_ | refine NoGoto_ret ?_ | refine Jump_ret ?_)
  refine done_ret (res1 rfl rfl) ?_
  exact ⟨rfl, by simp⟩
theorem same_spec (V : HProp) (p : Option Addr) (c : Nat) (l : List UInt8) (hV : Vw V (.slice p l.length c) l.length (cel l)) (hcap : l.length ≤ c) (hl : l.length ≤ 140737488355328) :
    Tri Try.prog 42 [.slice p l.length c] [V] (fun v H' => v = .bool true ∧ H' = [V]) :=
  tri_weak (same_run V p c l hV hcap hl) fun v H ⟨h1, h2⟩ => ⟨_, ⟨h1, rfl⟩, fun w F s => St_only h2 s⟩

end Go.Proofs.Ytbiohhfibkolgaa
