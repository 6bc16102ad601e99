/-
  The walk of AttrBack.
-/
import Derived.Test.YtbiohhfibkolgaaLaw14
namespace Go.Proofs.Ytbiohhfibkolgaa
open Go.Sx
set_option linter.unusedVariables false
set_option linter.unusedSimpArgs false
set_option maxRecDepth 100000

theorem ms1 (x y : At) (h : y.f &&& 1 ≠ 0) : (x.merge y).s = y.s := by rw [merge_fields]; simp only [if_pos h]
theorem ms0 (x y : At) (h : y.f &&& 1 = 0) : (x.merge y).s = x.s := by rw [merge_fields]; simp only [if_neg (not_not_intro h)]
theorem mm1 (x y : At) (h : y.f &&& 4 ≠ 0) : (x.merge y).m = y.m := by rw [merge_fields]; simp only [if_pos h]
theorem mm0 (x y : At) (h : y.f &&& 4 = 0) : (x.merge y).m = x.m := by rw [merge_fields]; simp only [if_neg (not_not_intro h)]
theorem aget_enc (pr : Nat) (p : Option Addr) (c : Nat) (x : At) (hx : x.Ok) (hg : x.Good) (l : List UInt8) (hl : l.length ≤ 140737488351232) :
    Tri Try.prog 36 [.pointer (some ⟨pr, 0, none⟩)] (rd pr p c (R.new (x.enc ++ l))) (fun v H' => v = x.v ∧ H' = rd pr p c ⟨x.enc ++ l, x.enc.length, 0, 0⟩) := by
  have h := aget_spec pr p c (R.new (x.enc ++ l)) (by have := x.enc_le; simp [R.new]; omega) (by simp [R.new])
  rw [attrs_enc x hx hg l] at h
  exact h
theorem attrBack_run (V : HProp) (q : Option Addr) (cq : Nat) (l : List UInt8) (x y : At) (hx : x.Ok) (hy : y.Ok) (hV : Vw V (.slice q l.length cq) l.length (cel l)) (hl : l.length ≤ 140737488351232) :
    Tri Try.prog 7 [x.v, y.v, .slice q l.length cq] [V] (fun v H' => v = .bool true ∧ V ∈ H') := by
  cases ha : x.right
  · skip
    refine tri_of_wp Try.func7 rfl Try.ntmps7 (by simp) ?_
    refine wp_seq' ?_
    refine wp_region' ?_
    refine ops_eff' rfl (eff_box rfl) rfl ?_
    rintro _ _ ⟨b3, rfl, rfl⟩
    refine ops_eff' rfl (eff_box rfl) rfl ?_
    rintro _ _ ⟨b4, rfl, rfl⟩
    refine ops_ro' rfl (ro_assign rfl) rfl ?_
    refine ops_nil ?_
    repeat (first | refine InBlock_normal ?_ | refine NoGoto_normal ?_ | refine Jump_normal ?_)
    refine Then_normal ?_
    refine wp_seq' ?_
    refine wp_seq' ?_
    refine wp_region' ?_
    refine ops_ro' rfl (ro_loadA ag30 rfl (by first | exact RdN.of_pick 0 rfl rdn_all | exact RdN.of_pick 1 rfl rdn_all | exact RdN.of_pick 2 rfl rdn_all | exact RdN.of_pick 3 rfl rdn_all | exact RdN.of_pick 4 rfl rdn_all | exact RdN.of_pick 5 rfl rdn_all | exact RdN.of_pick 6 rfl rdn_all | exact RdN.of_pick 7 rfl rdn_all) rfl) rfl ?_
    refine ops_eff' rfl (eff_call Try.call32 rfl rfl (Split.nil _) (right_of (b := false) hx ha)) rfl ?_
    rintro _ H' ⟨_, ⟨rfl, rfl⟩, hH⟩
    simp only [List.cons_append, List.nil_append, List.eraseIdx_cons_zero, List.eraseIdx_cons_succ, List.set_cons_zero, List.set_cons_succ] at hH
    subst hH
    refine ops_ro' rfl (ro_not rfl rfl) rfl ?_
    refine ops_ro' rfl (ro_move rfl) rfl ?_
    refine ops_skip rfl rfl ?_
    refine ops_skip rfl rfl ?_
    refine ops_skip rfl rfl ?_
    refine ops_ro' rfl (ro_pick rfl rfl) rfl ?_
    refine ops_nil ?_
    repeat (first | refine InBlock_normal ?_ | refine NoGoto_normal ?_ | refine Jump_normal ?_)
    refine Then_normal ?_
    refine wp_condT rfl ?_
    refine wp_seq' ?_
    refine wp_region' ?_
    refine ops_eff' rfl (eff_call Try.call33 rfl rfl (Split.nil _) (known_spec)) rfl ?_
    rintro _ H' ⟨_, ⟨rfl, rfl⟩, hH⟩
    simp only [List.cons_append, List.nil_append, List.eraseIdx_cons_zero, List.eraseIdx_cons_succ, List.set_cons_zero, List.set_cons_succ] at hH
    subst hH
    refine ops_ro' rfl (ro_assign rfl) rfl ?_
    refine ops_nil ?_
    repeat (first | refine InBlock_normal ?_ | refine NoGoto_normal ?_ | refine Jump_normal ?_)
    refine Then_normal ?_
    refine wp_ret' ?_
    repeat (first | refine Then_ret ?_ | refine InBlock_ret ?_ | refine NoGoto_ret ?_ | refine Jump_ret ?_)
    refine done_ret (res1 rfl rfl) ?_
    exact ⟨rfl, by simp⟩
  · cases hc : y.right
    · skip
      refine tri_of_wp Try.func7 rfl Try.ntmps7 (by simp) ?_
      refine wp_seq' ?_
      refine wp_region' ?_
      refine ops_eff' rfl (eff_box rfl) rfl ?_
      rintro _ _ ⟨b3, rfl, rfl⟩
      refine ops_eff' rfl (eff_box rfl) rfl ?_
      rintro _ _ ⟨b4, rfl, rfl⟩
      refine ops_ro' rfl (ro_assign rfl) rfl ?_
      refine ops_nil ?_
      repeat (first | refine InBlock_normal ?_ | refine NoGoto_normal ?_ | refine Jump_normal ?_)
      refine Then_normal ?_
      refine wp_seq' ?_
      refine wp_seq' ?_
      refine wp_region' ?_
      refine ops_ro' rfl (ro_loadA ag30 rfl (by first | exact RdN.of_pick 0 rfl rdn_all | exact RdN.of_pick 1 rfl rdn_all | exact RdN.of_pick 2 rfl rdn_all | exact RdN.of_pick 3 rfl rdn_all | exact RdN.of_pick 4 rfl rdn_all | exact RdN.of_pick 5 rfl rdn_all | exact RdN.of_pick 6 rfl rdn_all | exact RdN.of_pick 7 rfl rdn_all) rfl) rfl ?_
      refine ops_eff' rfl (eff_call Try.call32 rfl rfl (Split.nil _) (right_of (b := true) hx ha)) rfl ?_
      rintro _ H' ⟨_, ⟨rfl, rfl⟩, hH⟩
      simp only [List.cons_append, List.nil_append, List.eraseIdx_cons_zero, List.eraseIdx_cons_succ, List.set_cons_zero, List.set_cons_succ] at hH
      subst hH
      refine ops_ro' rfl (ro_not rfl rfl) rfl ?_
      refine ops_ro' rfl (ro_move rfl) rfl ?_
      refine ops_ro' rfl (ro_loadA ag30 rfl (by first | exact RdN.of_pick 0 rfl rdn_all | exact RdN.of_pick 1 rfl rdn_all | exact RdN.of_pick 2 rfl rdn_all | exact RdN.of_pick 3 rfl rdn_all | exact RdN.of_pick 4 rfl rdn_all | exact RdN.of_pick 5 rfl rdn_all | exact RdN.of_pick 6 rfl rdn_all | exact RdN.of_pick 7 rfl rdn_all) rfl) rfl ?_
      refine ops_eff' rfl (eff_call Try.call32 rfl rfl (Split.nil _) (right_of (b := false) hy hc)) rfl ?_
      rintro _ H' ⟨_, ⟨rfl, rfl⟩, hH⟩
      simp only [List.cons_append, List.nil_append, List.eraseIdx_cons_zero, List.eraseIdx_cons_succ, List.set_cons_zero, List.set_cons_succ] at hH
      subst hH
      refine ops_ro' rfl (ro_not rfl rfl) rfl ?_
      refine ops_ro' rfl (ro_pick rfl rfl) rfl ?_
      refine ops_nil ?_
      repeat (first | refine InBlock_normal ?_ | refine NoGoto_normal ?_ | refine Jump_normal ?_)
      refine Then_normal ?_
      refine wp_condT rfl ?_
      refine wp_seq' ?_
      refine wp_region' ?_
      refine ops_eff' rfl (eff_call Try.call33 rfl rfl (Split.nil _) (known_spec)) rfl ?_
      rintro _ H' ⟨_, ⟨rfl, rfl⟩, hH⟩
      simp only [List.cons_append, List.nil_append, List.eraseIdx_cons_zero, List.eraseIdx_cons_succ, List.set_cons_zero, List.set_cons_succ] at hH
      subst hH
      refine ops_ro' rfl (ro_assign rfl) rfl ?_
      refine ops_nil ?_
      repeat (first | refine InBlock_normal ?_ | refine NoGoto_normal ?_ | refine Jump_normal ?_)
      refine Then_normal ?_
      refine wp_ret' ?_
      repeat (first | refine Then_ret ?_ | refine InBlock_ret ?_ | refine NoGoto_ret ?_ | refine Jump_ret ?_)
      refine done_ret (res1 rfl rfl) ?_
      exact ⟨rfl, by simp⟩
    · have hgx := (right_good x).1 ha
      have hm : (x.merge y).right = true := (right_good _).2 (merge_good hgx ((right_good y).1 hc))
      refine tri_of_wp Try.func7 rfl Try.ntmps7 (by simp) ?_
      refine wp_seq' ?_
      refine wp_region' ?_
      refine ops_eff' rfl (eff_box rfl) rfl ?_
      rintro _ _ ⟨b3, rfl, rfl⟩
      refine ops_eff' rfl (eff_box rfl) rfl ?_
      rintro _ _ ⟨b4, rfl, rfl⟩
      refine ops_ro' rfl (ro_assign rfl) rfl ?_
      refine ops_nil ?_
      repeat (first | refine InBlock_normal ?_ | refine NoGoto_normal ?_ | refine Jump_normal ?_)
      refine Then_normal ?_
      refine wp_seq' ?_
      refine wp_seq' ?_
      refine wp_region' ?_
      refine ops_ro' rfl (ro_loadA ag30 rfl (by first | exact RdN.of_pick 0 rfl rdn_all | exact RdN.of_pick 1 rfl rdn_all | exact RdN.of_pick 2 rfl rdn_all | exact RdN.of_pick 3 rfl rdn_all | exact RdN.of_pick 4 rfl rdn_all | exact RdN.of_pick 5 rfl rdn_all | exact RdN.of_pick 6 rfl rdn_all | exact RdN.of_pick 7 rfl rdn_all) rfl) rfl ?_
      refine ops_eff' rfl (eff_call Try.call32 rfl rfl (Split.nil _) (right_of (b := true) hx ha)) rfl ?_
      rintro _ H' ⟨_, ⟨rfl, rfl⟩, hH⟩
      simp only [List.cons_append, List.nil_append, List.eraseIdx_cons_zero, List.eraseIdx_cons_succ, List.set_cons_zero, List.set_cons_succ] at hH
      subst hH
      refine ops_ro' rfl (ro_not rfl rfl) rfl ?_
      refine ops_ro' rfl (ro_move rfl) rfl ?_
      refine ops_ro' rfl (ro_loadA ag30 rfl (by first | exact RdN.of_pick 0 rfl rdn_all | exact RdN.of_pick 1 rfl rdn_all | exact RdN.of_pick 2 rfl rdn_all | exact RdN.of_pick 3 rfl rdn_all | exact RdN.of_pick 4 rfl rdn_all | exact RdN.of_pick 5 rfl rdn_all | exact RdN.of_pick 6 rfl rdn_all | exact RdN.of_pick 7 rfl rdn_all) rfl) rfl ?_
      refine ops_eff' rfl (eff_call Try.call32 rfl rfl (Split.nil _) (right_of (b := true) hy hc)) rfl ?_
      rintro _ H' ⟨_, ⟨rfl, rfl⟩, hH⟩
      simp only [List.cons_append, List.nil_append, List.eraseIdx_cons_zero, List.eraseIdx_cons_succ, List.set_cons_zero, List.set_cons_succ] at hH
      subst hH
      refine ops_ro' rfl (ro_not rfl rfl) rfl ?_
      refine ops_ro' rfl (ro_pick rfl rfl) rfl ?_
      refine ops_nil ?_
      repeat (first | refine InBlock_normal ?_ | refine NoGoto_normal ?_ | refine Jump_normal ?_)
      refine Then_normal ?_
      refine wp_condF rfl ?_
      refine wp_skip' ?_
      repeat (first | refine InBlock_normal ?_ | refine NoGoto_normal ?_ | refine Jump_normal ?_)
      refine Then_normal ?_
      refine wp_seq' ?_
      refine wp_region' ?_
      refine ops_ro' rfl (ro_loadA ag30 rfl (by first | exact RdN.of_pick 0 rfl rdn_all | exact RdN.of_pick 1 rfl rdn_all | exact RdN.of_pick 2 rfl rdn_all | exact RdN.of_pick 3 rfl rdn_all | exact RdN.of_pick 4 rfl rdn_all | exact RdN.of_pick 5 rfl rdn_all | exact RdN.of_pick 6 rfl rdn_all | exact RdN.of_pick 7 rfl rdn_all) rfl) rfl ?_
      refine ops_eff' rfl (eff_call Try.call35 rfl rfl (Split.nil _) (aput14_spec _ (by assumption))) rfl ?_
      rintro _ H' ⟨_, ⟨A, ⟨p, c, rfl, rfl⟩, rfl⟩, hH⟩
      simp only [List.cons_append, List.nil_append, List.eraseIdx_cons_zero, List.eraseIdx_cons_succ, List.set_cons_zero, List.set_cons_succ] at hH
      subst hH
      refine ops_ro' rfl (ro_move rfl) rfl ?_
      refine ops_eff' rfl (eff_append (src := .slice q l.length cq) (m := l.length) (news := cel l) 0 sl25 (.inl ⟨_, Try.underlying25⟩) rfl rfl rfl (Src.of_vw (Vw.pick 2 rfl hV) (by simp [cel_length]) (cel_one l)) (by have := x.enc_le; omega) (by have := x.enc_le; simp only [maxLen]; omega)) rfl ?_
      rintro _ H' ⟨A, ⟨p1, c1, rfl, hp1, rfl⟩, hH⟩
      simp only [List.cons_append, List.nil_append, List.eraseIdx_cons_zero, List.eraseIdx_cons_succ, List.set_cons_zero, List.set_cons_succ] at hH
      subst hH
      rw [← List.length_append, ← cel_append]
      refine ops_eff' rfl (eff_call Try.call34 rfl rfl (Split.cons 0 rfl (Split.nil _)) (newReader_spec _ p1 c1 (x.enc ++ l) Vw.row (by have := x.enc_le; simp; omega))) rfl ?_
      rintro _ H' ⟨_, ⟨pr, p2, c2, rfl, rfl⟩, hH⟩
      simp only [List.cons_append, List.nil_append, List.eraseIdx_cons_zero, List.eraseIdx_cons_succ, List.set_cons_zero, List.set_cons_succ] at hH
      subst hH
      refine ops_ro' rfl (ro_assign rfl) rfl ?_
      refine ops_nil ?_
      repeat (first | refine InBlock_normal ?_ | refine NoGoto_normal ?_ | refine Jump_normal ?_)
      refine Then_normal ?_
      refine wp_seq' ?_
      refine wp_seq' ?_
      refine wp_region' ?_
      refine ops_ro' rfl (ro_move rfl) rfl ?_
      refine ops_ro' rfl (ro_ptrEqlNil Try.underlying66 rfl rfl rfl) rfl ?_
      refine ops_nil ?_
      repeat (first | refine InBlock_normal ?_ | refine NoGoto_normal ?_ | refine Jump_normal ?_)
      refine Then_normal ?_
      refine wp_condF rfl ?_
      refine wp_skip' ?_
      repeat (first | refine InBlock_normal ?_ | refine NoGoto_normal ?_ | refine Jump_normal ?_)
      refine Then_normal ?_
      refine wp_seq' ?_
      refine wp_region' ?_
      refine ops_ro' rfl (ro_move rfl) rfl ?_
      refine ops_eff' rfl (eff_call Try.call36 rfl rfl (by first | exact Split.cons 0 rfl (Split.cons 0 rfl (Split.nil _)) | exact Split.cons 1 rfl (Split.cons 1 rfl (Split.nil _)) | exact Split.cons 2 rfl (Split.cons 2 rfl (Split.nil _)) | exact Split.cons 3 rfl (Split.cons 3 rfl (Split.nil _)) | exact Split.cons 4 rfl (Split.cons 4 rfl (Split.nil _)) | exact Split.cons 5 rfl (Split.cons 5 rfl (Split.nil _)) | exact Split.cons 6 rfl (Split.cons 6 rfl (Split.nil _)) | exact Split.cons 7 rfl (Split.cons 7 rfl (Split.nil _)) | exact Split.cons 0 rfl (Split.cons 1 rfl (Split.nil _)) | exact Split.cons 0 rfl (Split.cons 2 rfl (Split.nil _)) | exact Split.cons 0 rfl (Split.cons 3 rfl (Split.nil _)) | exact Split.cons 0 rfl (Split.cons 4 rfl (Split.nil _)) | exact Split.cons 0 rfl (Split.cons 5 rfl (Split.nil _)) | exact Split.cons 0 rfl (Split.cons 6 rfl (Split.nil _)) | exact Split.cons 1 rfl (Split.cons 0 rfl (Split.nil _)) | exact Split.cons 1 rfl (Split.cons 2 rfl (Split.nil _)) | exact Split.cons 1 rfl (Split.cons 3 rfl (Split.nil _)) | exact Split.cons 1 rfl (Split.cons 4 rfl (Split.nil _)) | exact Split.cons 1 rfl (Split.cons 5 rfl (Split.nil _)) | exact Split.cons 1 rfl (Split.cons 6 rfl (Split.nil _)) | exact Split.cons 2 rfl (Split.cons 0 rfl (Split.nil _)) | exact Split.cons 2 rfl (Split.cons 1 rfl (Split.nil _)) | exact Split.cons 2 rfl (Split.cons 3 rfl (Split.nil _)) | exact Split.cons 2 rfl (Split.cons 4 rfl (Split.nil _)) | exact Split.cons 2 rfl (Split.cons 5 rfl (Split.nil _)) | exact Split.cons 2 rfl (Split.cons 6 rfl (Split.nil _)) | exact Split.cons 3 rfl (Split.cons 0 rfl (Split.nil _)) | exact Split.cons 3 rfl (Split.cons 1 rfl (Split.nil _)) | exact Split.cons 3 rfl (Split.cons 2 rfl (Split.nil _)) | exact Split.cons 3 rfl (Split.cons 4 rfl (Split.nil _)) | exact Split.cons 3 rfl (Split.cons 5 rfl (Split.nil _)) | exact Split.cons 3 rfl (Split.cons 6 rfl (Split.nil _)) | exact Split.cons 4 rfl (Split.cons 0 rfl (Split.nil _)) | exact Split.cons 4 rfl (Split.cons 1 rfl (Split.nil _)) | exact Split.cons 4 rfl (Split.cons 2 rfl (Split.nil _)) | exact Split.cons 4 rfl (Split.cons 3 rfl (Split.nil _)) | exact Split.cons 4 rfl (Split.cons 5 rfl (Split.nil _)) | exact Split.cons 4 rfl (Split.cons 6 rfl (Split.nil _)) | exact Split.cons 5 rfl (Split.cons 0 rfl (Split.nil _)) | exact Split.cons 5 rfl (Split.cons 1 rfl (Split.nil _)) | exact Split.cons 5 rfl (Split.cons 2 rfl (Split.nil _)) | exact Split.cons 5 rfl (Split.cons 3 rfl (Split.nil _)) | exact Split.cons 5 rfl (Split.cons 4 rfl (Split.nil _)) | exact Split.cons 5 rfl (Split.cons 6 rfl (Split.nil _)) | exact Split.cons 6 rfl (Split.cons 0 rfl (Split.nil _)) | exact Split.cons 6 rfl (Split.cons 1 rfl (Split.nil _)) | exact Split.cons 6 rfl (Split.cons 2 rfl (Split.nil _)) | exact Split.cons 6 rfl (Split.cons 3 rfl (Split.nil _)) | exact Split.cons 6 rfl (Split.cons 4 rfl (Split.nil _)) | exact Split.cons 6 rfl (Split.cons 5 rfl (Split.nil _)) | exact Split.cons 7 rfl (Split.cons 0 rfl (Split.nil _)) | exact Split.cons 7 rfl (Split.cons 1 rfl (Split.nil _)) | exact Split.cons 7 rfl (Split.cons 2 rfl (Split.nil _)) | exact Split.cons 7 rfl (Split.cons 3 rfl (Split.nil _)) | exact Split.cons 7 rfl (Split.cons 4 rfl (Split.nil _)) | exact Split.cons 7 rfl (Split.cons 5 rfl (Split.nil _)) | exact Split.cons 7 rfl (Split.cons 6 rfl (Split.nil _))) (aget_enc _ _ _ x hx hgx l hl)) rfl ?_
      rintro _ H' ⟨_, ⟨rfl, rfl⟩, hH⟩
      simp only [List.cons_append, List.nil_append, List.eraseIdx_cons_zero, List.eraseIdx_cons_succ, List.set_cons_zero, List.set_cons_succ] at hH
      subst hH
      refine ops_eff' rfl (eff_alloc z30) rfl ?_
      rintro _ _ ⟨b8, rfl, rfl⟩
      refine ops_eff0 rfl ((by first | exact eff_storeA 0 ag30 rfl rfl rfl rfl rfl (Nat.le_of_ble_eq_true rfl) (warm_zero _) | exact eff_storeA 1 ag30 rfl rfl rfl rfl rfl (Nat.le_of_ble_eq_true rfl) (warm_zero _) | exact eff_storeA 2 ag30 rfl rfl rfl rfl rfl (Nat.le_of_ble_eq_true rfl) (warm_zero _) | exact eff_storeA 3 ag30 rfl rfl rfl rfl rfl (Nat.le_of_ble_eq_true rfl) (warm_zero _) | exact eff_storeA 4 ag30 rfl rfl rfl rfl rfl (Nat.le_of_ble_eq_true rfl) (warm_zero _) | exact eff_storeA 5 ag30 rfl rfl rfl rfl rfl (Nat.le_of_ble_eq_true rfl) (warm_zero _) | exact eff_storeA 6 ag30 rfl rfl rfl rfl rfl (Nat.le_of_ble_eq_true rfl) (warm_zero _) | exact eff_storeA 7 ag30 rfl rfl rfl rfl rfl (Nat.le_of_ble_eq_true rfl) (warm_zero _))) rfl ?_
      rintro _ _ rfl
      refine ops_nil ?_
      repeat (first | refine InBlock_normal ?_ | refine NoGoto_normal ?_ | refine Jump_normal ?_)
      refine Then_normal ?_
      refine wp_seq' ?_
      refine wp_region' ?_
      refine ops_ro' rfl (ro_loadA ag30 rfl (by first | exact RdN.of_pick 0 rfl rdn_all | exact RdN.of_pick 1 rfl rdn_all | exact RdN.of_pick 2 rfl rdn_all | exact RdN.of_pick 3 rfl rdn_all | exact RdN.of_pick 4 rfl rdn_all | exact RdN.of_pick 5 rfl rdn_all | exact RdN.of_pick 6 rfl rdn_all | exact RdN.of_pick 7 rfl rdn_all) rfl) rfl ?_
      refine ops_ro' rfl (ro_loadA ag30 rfl (by first | exact RdN.of_pick 0 rfl rdn_all | exact RdN.of_pick 1 rfl rdn_all | exact RdN.of_pick 2 rfl rdn_all | exact RdN.of_pick 3 rfl rdn_all | exact RdN.of_pick 4 rfl rdn_all | exact RdN.of_pick 5 rfl rdn_all | exact RdN.of_pick 6 rfl rdn_all | exact RdN.of_pick 7 rfl rdn_all) rfl) rfl ?_
      refine ops_eff' rfl (eff_call Try.call37 rfl rfl (Split.nil _) (merge_spec _ _ hx hy)) rfl ?_
      rintro _ H' ⟨_, ⟨rfl, rfl⟩, hH⟩
      simp only [List.cons_append, List.nil_append, List.eraseIdx_cons_zero, List.eraseIdx_cons_succ, List.set_cons_zero, List.set_cons_succ] at hH
      subst hH
      refine ops_eff' rfl (eff_alloc z30) rfl ?_
      rintro _ _ ⟨b9, rfl, rfl⟩
      refine ops_eff0 rfl ((by first | exact eff_storeA 0 ag30 rfl rfl rfl rfl rfl (Nat.le_of_ble_eq_true rfl) (warm_zero _) | exact eff_storeA 1 ag30 rfl rfl rfl rfl rfl (Nat.le_of_ble_eq_true rfl) (warm_zero _) | exact eff_storeA 2 ag30 rfl rfl rfl rfl rfl (Nat.le_of_ble_eq_true rfl) (warm_zero _) | exact eff_storeA 3 ag30 rfl rfl rfl rfl rfl (Nat.le_of_ble_eq_true rfl) (warm_zero _) | exact eff_storeA 4 ag30 rfl rfl rfl rfl rfl (Nat.le_of_ble_eq_true rfl) (warm_zero _) | exact eff_storeA 5 ag30 rfl rfl rfl rfl rfl (Nat.le_of_ble_eq_true rfl) (warm_zero _) | exact eff_storeA 6 ag30 rfl rfl rfl rfl rfl (Nat.le_of_ble_eq_true rfl) (warm_zero _) | exact eff_storeA 7 ag30 rfl rfl rfl rfl rfl (Nat.le_of_ble_eq_true rfl) (warm_zero _))) rfl ?_
      rintro _ _ rfl
      refine ops_nil ?_
      repeat (first | refine InBlock_normal ?_ | refine NoGoto_normal ?_ | refine Jump_normal ?_)
      refine Then_normal ?_
      refine wp_seq' ?_
      refine wp_seq' ?_
      refine wp_draw 53 (by kernel_rfl) (Split.cons 0 rfl (Split.cons 0 rfl (Split.cons 3 rfl (Split.cons 3 rfl (Split.nil _))))) ?_
      refine any_ro' (i := 0) (by kernel_rfl) rfl rfl (ro_loadA ag30 rfl (by first | exact RdN.of_pick 0 rfl rdn_all | exact RdN.of_pick 1 rfl rdn_all | exact RdN.of_pick 2 rfl rdn_all | exact RdN.of_pick 3 rfl rdn_all | exact RdN.of_pick 4 rfl rdn_all | exact RdN.of_pick 5 rfl rdn_all | exact RdN.of_pick 6 rfl rdn_all | exact RdN.of_pick 7 rfl rdn_all) rfl) rfl (fun _ _ _ h => h) ?_
      refine any_ro' (i := 1) (by kernel_rfl) rfl rfl (ro_loadA ag30 rfl (by first | exact RdN.of_pick 0 rfl rdn_all | exact RdN.of_pick 1 rfl rdn_all | exact RdN.of_pick 2 rfl rdn_all | exact RdN.of_pick 3 rfl rdn_all | exact RdN.of_pick 4 rfl rdn_all | exact RdN.of_pick 5 rfl rdn_all | exact RdN.of_pick 6 rfl rdn_all | exact RdN.of_pick 7 rfl rdn_all) rfl) rfl (fun _ _ _ h => h) ?_
      refine any_ro' (i := 2) (by kernel_rfl) rfl rfl (ro_attrNe rfl rfl (c := false) (by simp [merge_self, merge_zero, zero_merge hgx, merge_again])) rfl (fun _ _ _ h => h) ?_
      refine any_ro' (i := 3) (by kernel_rfl) rfl rfl (ro_move rfl) rfl (fun _ _ _ h => h) ?_
      refine any_ro' (i := 4) (by kernel_rfl) rfl rfl (ro_move rfl) rfl (fun _ _ _ h => h) ?_
      refine any_ro' (i := 6) (by kernel_rfl) rfl rfl (ro_move rfl) rfl (fun _ _ _ h => h) ?_
      refine any_ro' (i := 7) (by kernel_rfl) rfl rfl (ro_sliceLen Try.underlying25 rfl) rfl (fun _ _ _ h => h) ?_
      refine any_eff' (i := 5) (by kernel_rfl) rfl rfl (eff_call Try.call38 rfl rfl (by first | exact Split.cons 0 rfl (Split.cons 0 rfl (Split.nil _)) | exact Split.cons 1 rfl (Split.cons 1 rfl (Split.nil _)) | exact Split.cons 2 rfl (Split.cons 2 rfl (Split.nil _)) | exact Split.cons 3 rfl (Split.cons 3 rfl (Split.nil _)) | exact Split.cons 4 rfl (Split.cons 4 rfl (Split.nil _)) | exact Split.cons 5 rfl (Split.cons 5 rfl (Split.nil _)) | exact Split.cons 6 rfl (Split.cons 6 rfl (Split.nil _)) | exact Split.cons 7 rfl (Split.cons 7 rfl (Split.nil _)) | exact Split.cons 0 rfl (Split.cons 1 rfl (Split.nil _)) | exact Split.cons 0 rfl (Split.cons 2 rfl (Split.nil _)) | exact Split.cons 0 rfl (Split.cons 3 rfl (Split.nil _)) | exact Split.cons 0 rfl (Split.cons 4 rfl (Split.nil _)) | exact Split.cons 0 rfl (Split.cons 5 rfl (Split.nil _)) | exact Split.cons 0 rfl (Split.cons 6 rfl (Split.nil _)) | exact Split.cons 1 rfl (Split.cons 0 rfl (Split.nil _)) | exact Split.cons 1 rfl (Split.cons 2 rfl (Split.nil _)) | exact Split.cons 1 rfl (Split.cons 3 rfl (Split.nil _)) | exact Split.cons 1 rfl (Split.cons 4 rfl (Split.nil _)) | exact Split.cons 1 rfl (Split.cons 5 rfl (Split.nil _)) | exact Split.cons 1 rfl (Split.cons 6 rfl (Split.nil _)) | exact Split.cons 2 rfl (Split.cons 0 rfl (Split.nil _)) | exact Split.cons 2 rfl (Split.cons 1 rfl (Split.nil _)) | exact Split.cons 2 rfl (Split.cons 3 rfl (Split.nil _)) | exact Split.cons 2 rfl (Split.cons 4 rfl (Split.nil _)) | exact Split.cons 2 rfl (Split.cons 5 rfl (Split.nil _)) | exact Split.cons 2 rfl (Split.cons 6 rfl (Split.nil _)) | exact Split.cons 3 rfl (Split.cons 0 rfl (Split.nil _)) | exact Split.cons 3 rfl (Split.cons 1 rfl (Split.nil _)) | exact Split.cons 3 rfl (Split.cons 2 rfl (Split.nil _)) | exact Split.cons 3 rfl (Split.cons 4 rfl (Split.nil _)) | exact Split.cons 3 rfl (Split.cons 5 rfl (Split.nil _)) | exact Split.cons 3 rfl (Split.cons 6 rfl (Split.nil _)) | exact Split.cons 4 rfl (Split.cons 0 rfl (Split.nil _)) | exact Split.cons 4 rfl (Split.cons 1 rfl (Split.nil _)) | exact Split.cons 4 rfl (Split.cons 2 rfl (Split.nil _)) | exact Split.cons 4 rfl (Split.cons 3 rfl (Split.nil _)) | exact Split.cons 4 rfl (Split.cons 5 rfl (Split.nil _)) | exact Split.cons 4 rfl (Split.cons 6 rfl (Split.nil _)) | exact Split.cons 5 rfl (Split.cons 0 rfl (Split.nil _)) | exact Split.cons 5 rfl (Split.cons 1 rfl (Split.nil _)) | exact Split.cons 5 rfl (Split.cons 2 rfl (Split.nil _)) | exact Split.cons 5 rfl (Split.cons 3 rfl (Split.nil _)) | exact Split.cons 5 rfl (Split.cons 4 rfl (Split.nil _)) | exact Split.cons 5 rfl (Split.cons 6 rfl (Split.nil _)) | exact Split.cons 6 rfl (Split.cons 0 rfl (Split.nil _)) | exact Split.cons 6 rfl (Split.cons 1 rfl (Split.nil _)) | exact Split.cons 6 rfl (Split.cons 2 rfl (Split.nil _)) | exact Split.cons 6 rfl (Split.cons 3 rfl (Split.nil _)) | exact Split.cons 6 rfl (Split.cons 4 rfl (Split.nil _)) | exact Split.cons 6 rfl (Split.cons 5 rfl (Split.nil _)) | exact Split.cons 7 rfl (Split.cons 0 rfl (Split.nil _)) | exact Split.cons 7 rfl (Split.cons 1 rfl (Split.nil _)) | exact Split.cons 7 rfl (Split.cons 2 rfl (Split.nil _)) | exact Split.cons 7 rfl (Split.cons 3 rfl (Split.nil _)) | exact Split.cons 7 rfl (Split.cons 4 rfl (Split.nil _)) | exact Split.cons 7 rfl (Split.cons 5 rfl (Split.nil _)) | exact Split.cons 7 rfl (Split.cons 6 rfl (Split.nil _))) (left_spec _ _ _ ⟨x.enc ++ l, x.enc.length, 0, 0⟩ (by have := x.enc_le; simp; omega) (by simp))) rfl ?_
      rintro _ H' ⟨_, ⟨rfl, rfl⟩, hH⟩
      simp only [List.cons_append, List.nil_append, List.eraseIdx_cons_zero, List.eraseIdx_cons_succ, List.set_cons_zero, List.set_cons_succ] at hH
      subst hH
      refine any_ro' (i := 8) (by kernel_rfl) rfl rfl (ro_neq rfl rfl (decide_eq_false (by simp [R.left]; omega))) rfl (fun _ _ _ h => h) ?_
      refine any_ro' (i := 9) (by kernel_rfl) rfl rfl (ro_pick rfl rfl) rfl (fun _ _ _ h => h) ?_
      refine any_ro' (i := 10) (by kernel_rfl) rfl rfl (ro_move rfl) rfl (fun _ _ _ h => h) ?_
      refine any_ro' (i := 11) (by kernel_rfl) rfl rfl (ro_loadA ag30 rfl (by first | exact RdN.of_pick 0 rfl rdn_all | exact RdN.of_pick 1 rfl rdn_all | exact RdN.of_pick 2 rfl rdn_all | exact RdN.of_pick 3 rfl rdn_all | exact RdN.of_pick 4 rfl rdn_all | exact RdN.of_pick 5 rfl rdn_all | exact RdN.of_pick 6 rfl rdn_all | exact RdN.of_pick 7 rfl rdn_all) rfl) rfl (fun _ _ _ h => h) ?_
      refine any_eff' (i := 12) (by kernel_rfl) rfl rfl (eff_call Try.call32 rfl rfl (Split.nil _) (right_of (b := true) (merge_ok hx hy) hm)) rfl ?_
      rintro _ H' ⟨_, ⟨rfl, rfl⟩, hH⟩
      simp only [List.cons_append, List.nil_append, List.eraseIdx_cons_zero, List.eraseIdx_cons_succ, List.set_cons_zero, List.set_cons_succ] at hH
      subst hH
      refine any_ro' (i := 13) (by kernel_rfl) rfl rfl (ro_not rfl rfl) rfl (fun _ _ _ h => h) ?_
      refine any_ro' (i := 14) (by kernel_rfl) rfl rfl (ro_pick rfl rfl) rfl (fun _ _ _ h => h) ?_
      refine any_ro' (i := 15) (by kernel_rfl) rfl rfl (ro_move rfl) rfl (fun _ _ _ h => h) ?_
      refine any_ro' (i := 16) (by kernel_rfl) rfl rfl (ro_fieldAddr fa30_0 rfl) rfl (fun _ _ _ h => h) ?_
      refine any_ro' (i := 17) (by kernel_rfl) rfl rfl (ro_load sc27 rfl (by first | exact Rd.pick 0 rfl (by first | exact Rd.own rfl | exact Rd.row rfl) | exact Rd.pick 1 rfl (by first | exact Rd.own rfl | exact Rd.row rfl) | exact Rd.pick 2 rfl (by first | exact Rd.own rfl | exact Rd.row rfl) | exact Rd.pick 3 rfl (by first | exact Rd.own rfl | exact Rd.row rfl) | exact Rd.pick 4 rfl (by first | exact Rd.own rfl | exact Rd.row rfl) | exact Rd.pick 5 rfl (by first | exact Rd.own rfl | exact Rd.row rfl) | exact Rd.pick 6 rfl (by first | exact Rd.own rfl | exact Rd.row rfl) | exact Rd.pick 7 rfl (by first | exact Rd.own rfl | exact Rd.row rfl))) rfl (fun _ _ _ h => h) ?_
      refine any_ro' (i := 18) (by kernel_rfl) rfl rfl (ro_fieldAddr fa30_0 rfl) rfl (fun _ _ _ h => h) ?_
      refine any_ro' (i := 19) (by kernel_rfl) rfl rfl (ro_load sc27 rfl (by first | exact Rd.pick 0 rfl (by first | exact Rd.own rfl | exact Rd.row rfl) | exact Rd.pick 1 rfl (by first | exact Rd.own rfl | exact Rd.row rfl) | exact Rd.pick 2 rfl (by first | exact Rd.own rfl | exact Rd.row rfl) | exact Rd.pick 3 rfl (by first | exact Rd.own rfl | exact Rd.row rfl) | exact Rd.pick 4 rfl (by first | exact Rd.own rfl | exact Rd.row rfl) | exact Rd.pick 5 rfl (by first | exact Rd.own rfl | exact Rd.row rfl) | exact Rd.pick 6 rfl (by first | exact Rd.own rfl | exact Rd.row rfl) | exact Rd.pick 7 rfl (by first | exact Rd.own rfl | exact Rd.row rfl))) rfl (fun _ _ _ h => h) ?_
      refine any_ro' (i := 20) (by kernel_rfl) rfl rfl (ro_fieldAddr fa30_0 rfl) rfl (fun _ _ _ h => h) ?_
      refine any_ro' (i := 21) (by kernel_rfl) rfl rfl (ro_load sc27 rfl (by first | exact Rd.pick 0 rfl (by first | exact Rd.own rfl | exact Rd.row rfl) | exact Rd.pick 1 rfl (by first | exact Rd.own rfl | exact Rd.row rfl) | exact Rd.pick 2 rfl (by first | exact Rd.own rfl | exact Rd.row rfl) | exact Rd.pick 3 rfl (by first | exact Rd.own rfl | exact Rd.row rfl) | exact Rd.pick 4 rfl (by first | exact Rd.own rfl | exact Rd.row rfl) | exact Rd.pick 5 rfl (by first | exact Rd.own rfl | exact Rd.row rfl) | exact Rd.pick 6 rfl (by first | exact Rd.own rfl | exact Rd.row rfl) | exact Rd.pick 7 rfl (by first | exact Rd.own rfl | exact Rd.row rfl))) rfl (fun _ _ _ h => h) ?_
      refine any_ro' (i := 22) (by kernel_rfl) rfl rfl (ro_or rfl rfl (or32 hx.f hy.f)) rfl (fun _ _ _ h => h) ?_
      refine any_ro' (i := 23) (by kernel_rfl) rfl rfl (ro_neq rfl rfl (decide_eq_false (by rw [merge_fields]; simp))) rfl (fun _ _ _ h => h) ?_
      refine any_ro' (i := 24) (by kernel_rfl) rfl rfl (ro_pick rfl rfl) rfl (fun _ _ _ h => h) ?_
      refine any_ro' (i := 25) (by kernel_rfl) rfl rfl (ro_move rfl) rfl (fun _ _ _ h => h) ?_
      refine any_ro' (i := 26) (by kernel_rfl) rfl rfl (ro_loadA ag30 rfl (by first | exact RdN.of_pick 0 rfl rdn_all | exact RdN.of_pick 1 rfl rdn_all | exact RdN.of_pick 2 rfl rdn_all | exact RdN.of_pick 3 rfl rdn_all | exact RdN.of_pick 4 rfl rdn_all | exact RdN.of_pick 5 rfl rdn_all | exact RdN.of_pick 6 rfl rdn_all | exact RdN.of_pick 7 rfl rdn_all) rfl) rfl (fun _ _ _ h => h) ?_
      refine any_ro' (i := 27) (by kernel_rfl) rfl rfl (ro_loadA ag30 rfl (by first | exact RdN.of_pick 0 rfl rdn_all | exact RdN.of_pick 1 rfl rdn_all | exact RdN.of_pick 2 rfl rdn_all | exact RdN.of_pick 3 rfl rdn_all | exact RdN.of_pick 4 rfl rdn_all | exact RdN.of_pick 5 rfl rdn_all | exact RdN.of_pick 6 rfl rdn_all | exact RdN.of_pick 7 rfl rdn_all) rfl) rfl (fun _ _ _ h => h) ?_
      refine any_ro' (i := 29) (by kernel_rfl) rfl rfl (ro_loadA ag30 rfl (by first | exact RdN.of_pick 0 rfl rdn_all | exact RdN.of_pick 1 rfl rdn_all | exact RdN.of_pick 2 rfl rdn_all | exact RdN.of_pick 3 rfl rdn_all | exact RdN.of_pick 4 rfl rdn_all | exact RdN.of_pick 5 rfl rdn_all | exact RdN.of_pick 6 rfl rdn_all | exact RdN.of_pick 7 rfl rdn_all) rfl) rfl (fun _ _ _ h => h) ?_
      refine any_eff' (i := 28) (by kernel_rfl) rfl rfl (eff_call Try.call37 rfl rfl (Split.nil _) (merge_spec _ _ hx hx)) rfl ?_
      rintro _ H' ⟨_, ⟨rfl, rfl⟩, hH⟩
      simp only [List.cons_append, List.nil_append, List.eraseIdx_cons_zero, List.eraseIdx_cons_succ, List.set_cons_zero, List.set_cons_succ] at hH
      subst hH
      refine any_ro' (i := 30) (by kernel_rfl) rfl rfl (ro_attrNe rfl rfl (c := false) (by simp [merge_self, merge_zero, zero_merge hgx, merge_again])) rfl (fun _ _ _ h => h) ?_
      refine any_ro' (i := 31) (by kernel_rfl) rfl rfl (ro_pick rfl rfl) rfl (fun _ _ _ h => h) ?_
      refine any_ro' (i := 32) (by kernel_rfl) rfl rfl (ro_move rfl) rfl (fun _ _ _ h => h) ?_
      refine any_ro' (i := 33) (by kernel_rfl) rfl rfl (ro_loadA ag30 rfl (by first | exact RdN.of_pick 0 rfl rdn_all | exact RdN.of_pick 1 rfl rdn_all | exact RdN.of_pick 2 rfl rdn_all | exact RdN.of_pick 3 rfl rdn_all | exact RdN.of_pick 4 rfl rdn_all | exact RdN.of_pick 5 rfl rdn_all | exact RdN.of_pick 6 rfl rdn_all | exact RdN.of_pick 7 rfl rdn_all) rfl) rfl (fun _ _ _ h => h) ?_
      refine any_ro' (i := 34) (by kernel_rfl) rfl rfl (ro_build rfl (show Bld Try.prog 30 [] At.zero.v from bld_struct (cs := At.zero.cs) st30 rfl)) rfl (fun _ _ _ h => h) ?_
      refine any_ro' (i := 36) (by kernel_rfl) rfl rfl (ro_loadA ag30 rfl (by first | exact RdN.of_pick 0 rfl rdn_all | exact RdN.of_pick 1 rfl rdn_all | exact RdN.of_pick 2 rfl rdn_all | exact RdN.of_pick 3 rfl rdn_all | exact RdN.of_pick 4 rfl rdn_all | exact RdN.of_pick 5 rfl rdn_all | exact RdN.of_pick 6 rfl rdn_all | exact RdN.of_pick 7 rfl rdn_all) rfl) rfl (fun _ _ _ h => h) ?_
      refine any_eff' (i := 35) (by kernel_rfl) rfl rfl (eff_call Try.call37 rfl rfl (Split.nil _) (merge_spec _ _ hx At.zero_ok)) rfl ?_
      rintro _ H' ⟨_, ⟨rfl, rfl⟩, hH⟩
      simp only [List.cons_append, List.nil_append, List.eraseIdx_cons_zero, List.eraseIdx_cons_succ, List.set_cons_zero, List.set_cons_succ] at hH
      subst hH
      refine any_ro' (i := 37) (by kernel_rfl) rfl rfl (ro_attrNe rfl rfl (c := false) (by simp [merge_self, merge_zero, zero_merge hgx, merge_again])) rfl (fun _ _ _ h => h) ?_
      refine any_ro' (i := 38) (by kernel_rfl) rfl rfl (ro_pick rfl rfl) rfl (fun _ _ _ h => h) ?_
      refine any_ro' (i := 39) (by kernel_rfl) rfl rfl (ro_move rfl) rfl (fun _ _ _ h => h) ?_
      refine any_ro' (i := 40) (by kernel_rfl) rfl rfl (ro_build rfl (show Bld Try.prog 30 [] At.zero.v from bld_struct (cs := At.zero.cs) st30 rfl)) rfl (fun _ _ _ h => h) ?_
      refine any_ro' (i := 41) (by kernel_rfl) rfl rfl (ro_loadA ag30 rfl (by first | exact RdN.of_pick 0 rfl rdn_all | exact RdN.of_pick 1 rfl rdn_all | exact RdN.of_pick 2 rfl rdn_all | exact RdN.of_pick 3 rfl rdn_all | exact RdN.of_pick 4 rfl rdn_all | exact RdN.of_pick 5 rfl rdn_all | exact RdN.of_pick 6 rfl rdn_all | exact RdN.of_pick 7 rfl rdn_all) rfl) rfl (fun _ _ _ h => h) ?_
      refine any_ro' (i := 43) (by kernel_rfl) rfl rfl (ro_loadA ag30 rfl (by first | exact RdN.of_pick 0 rfl rdn_all | exact RdN.of_pick 1 rfl rdn_all | exact RdN.of_pick 2 rfl rdn_all | exact RdN.of_pick 3 rfl rdn_all | exact RdN.of_pick 4 rfl rdn_all | exact RdN.of_pick 5 rfl rdn_all | exact RdN.of_pick 6 rfl rdn_all | exact RdN.of_pick 7 rfl rdn_all) rfl) rfl (fun _ _ _ h => h) ?_
      refine any_eff' (i := 42) (by kernel_rfl) rfl rfl (eff_call Try.call37 rfl rfl (Split.nil _) (merge_spec _ _ At.zero_ok hx)) rfl ?_
      rintro _ H' ⟨_, ⟨rfl, rfl⟩, hH⟩
      simp only [List.cons_append, List.nil_append, List.eraseIdx_cons_zero, List.eraseIdx_cons_succ, List.set_cons_zero, List.set_cons_succ] at hH
      subst hH
      refine any_ro' (i := 44) (by kernel_rfl) rfl rfl (ro_attrNe rfl rfl (c := false) (by simp [merge_self, merge_zero, zero_merge hgx, merge_again])) rfl (fun _ _ _ h => h) ?_
      refine any_ro' (i := 45) (by kernel_rfl) rfl rfl (ro_pick rfl rfl) rfl (fun _ _ _ h => h) ?_
      refine any_ro' (i := 46) (by kernel_rfl) rfl rfl (ro_move rfl) rfl (fun _ _ _ h => h) ?_
      refine any_ro' (i := 47) (by kernel_rfl) rfl rfl (ro_loadA ag30 rfl (by first | exact RdN.of_pick 0 rfl rdn_all | exact RdN.of_pick 1 rfl rdn_all | exact RdN.of_pick 2 rfl rdn_all | exact RdN.of_pick 3 rfl rdn_all | exact RdN.of_pick 4 rfl rdn_all | exact RdN.of_pick 5 rfl rdn_all | exact RdN.of_pick 6 rfl rdn_all | exact RdN.of_pick 7 rfl rdn_all) rfl) rfl (fun _ _ _ h => h) ?_
      refine any_ro' (i := 48) (by kernel_rfl) rfl rfl (ro_loadA ag30 rfl (by first | exact RdN.of_pick 0 rfl rdn_all | exact RdN.of_pick 1 rfl rdn_all | exact RdN.of_pick 2 rfl rdn_all | exact RdN.of_pick 3 rfl rdn_all | exact RdN.of_pick 4 rfl rdn_all | exact RdN.of_pick 5 rfl rdn_all | exact RdN.of_pick 6 rfl rdn_all | exact RdN.of_pick 7 rfl rdn_all) rfl) rfl (fun _ _ _ h => h) ?_
      refine any_ro' (i := 50) (by kernel_rfl) rfl rfl (ro_loadA ag30 rfl (by first | exact RdN.of_pick 0 rfl rdn_all | exact RdN.of_pick 1 rfl rdn_all | exact RdN.of_pick 2 rfl rdn_all | exact RdN.of_pick 3 rfl rdn_all | exact RdN.of_pick 4 rfl rdn_all | exact RdN.of_pick 5 rfl rdn_all | exact RdN.of_pick 6 rfl rdn_all | exact RdN.of_pick 7 rfl rdn_all) rfl) rfl (fun _ _ _ h => h) ?_
      refine any_eff' (i := 49) (by kernel_rfl) rfl rfl (eff_call Try.call37 rfl rfl (Split.nil _) (merge_spec _ _ (merge_ok hx hy) hy)) rfl ?_
      rintro _ H' ⟨_, ⟨rfl, rfl⟩, hH⟩
      simp only [List.cons_append, List.nil_append, List.eraseIdx_cons_zero, List.eraseIdx_cons_succ, List.set_cons_zero, List.set_cons_succ] at hH
      subst hH
      refine any_ro' (i := 51) (by kernel_rfl) rfl rfl (ro_attrNe rfl rfl (c := false) (by simp [merge_self, merge_zero, zero_merge hgx, merge_again])) rfl (fun _ _ _ h => h) ?_
      refine any_ro' (i := 52) (by kernel_rfl) rfl rfl (ro_pick rfl rfl) rfl (fun _ _ _ h => h) ?_
      refine any_done (by kernel_rfl) ?_
      repeat (first | refine InBlock_normal ?_ | refine NoGoto_normal ?_ | refine Jump_normal ?_)
      refine Then_normal ?_
      refine wp_condF rfl ?_
      refine wp_skip' ?_
      repeat (first | refine InBlock_normal ?_ | refine NoGoto_normal ?_ | refine Jump_normal ?_)
      refine Then_normal ?_
      refine wp_seq' ?_
      refine wp_region' ?_
      refine ops_ro' rfl (ro_fieldAddr fa30_1 rfl) rfl ?_
      refine ops_ro' rfl (ro_load sc28 rfl (by first | exact Rd.pick 0 rfl (by first | exact Rd.own rfl | exact Rd.row rfl) | exact Rd.pick 1 rfl (by first | exact Rd.own rfl | exact Rd.row rfl) | exact Rd.pick 2 rfl (by first | exact Rd.own rfl | exact Rd.row rfl) | exact Rd.pick 3 rfl (by first | exact Rd.own rfl | exact Rd.row rfl) | exact Rd.pick 4 rfl (by first | exact Rd.own rfl | exact Rd.row rfl) | exact Rd.pick 5 rfl (by first | exact Rd.own rfl | exact Rd.row rfl) | exact Rd.pick 6 rfl (by first | exact Rd.own rfl | exact Rd.row rfl) | exact Rd.pick 7 rfl (by first | exact Rd.own rfl | exact Rd.row rfl))) rfl ?_
      refine ops_ro' rfl (ro_assign rfl) rfl ?_
      refine ops_nil ?_
      repeat (first | refine InBlock_normal ?_ | refine NoGoto_normal ?_ | refine Jump_normal ?_)
      refine Then_normal ?_
      refine wp_seq' ?_
      refine wp_seq' ?_
      refine wp_region' ?_
      refine ops_ro' rfl (ro_fieldAddr fa30_0 rfl) rfl ?_
      refine ops_ro' rfl (ro_load sc27 rfl (by first | exact Rd.pick 0 rfl (by first | exact Rd.own rfl | exact Rd.row rfl) | exact Rd.pick 1 rfl (by first | exact Rd.own rfl | exact Rd.row rfl) | exact Rd.pick 2 rfl (by first | exact Rd.own rfl | exact Rd.row rfl) | exact Rd.pick 3 rfl (by first | exact Rd.own rfl | exact Rd.row rfl) | exact Rd.pick 4 rfl (by first | exact Rd.own rfl | exact Rd.row rfl) | exact Rd.pick 5 rfl (by first | exact Rd.own rfl | exact Rd.row rfl) | exact Rd.pick 6 rfl (by first | exact Rd.own rfl | exact Rd.row rfl) | exact Rd.pick 7 rfl (by first | exact Rd.own rfl | exact Rd.row rfl))) rfl ?_
      refine ops_ro' rfl (ro_and rfl rfl (and32 hy.f (c := 1) (by decide) rfl)) rfl ?_
      refine ops_ro' rfl (ro_neq rfl rfl rfl) rfl ?_
      refine ops_nil ?_
      repeat (first | refine InBlock_normal ?_ | refine NoGoto_normal ?_ | refine Jump_normal ?_)
      refine Then_normal ?_
      refine wp_cond' rfl (fun hc3 => ?_) (fun hc3 => ?_)
      · try replace hc3 := of_decide_eq_true hc3
        refine wp_region' ?_
        refine ops_ro' rfl (ro_fieldAddr fa30_1 rfl) rfl ?_
        refine ops_ro' rfl (ro_load sc28 rfl (by first | exact Rd.pick 0 rfl (by first | exact Rd.own rfl | exact Rd.row rfl) | exact Rd.pick 1 rfl (by first | exact Rd.own rfl | exact Rd.row rfl) | exact Rd.pick 2 rfl (by first | exact Rd.own rfl | exact Rd.row rfl) | exact Rd.pick 3 rfl (by first | exact Rd.own rfl | exact Rd.row rfl) | exact Rd.pick 4 rfl (by first | exact Rd.own rfl | exact Rd.row rfl) | exact Rd.pick 5 rfl (by first | exact Rd.own rfl | exact Rd.row rfl) | exact Rd.pick 6 rfl (by first | exact Rd.own rfl | exact Rd.row rfl) | exact Rd.pick 7 rfl (by first | exact Rd.own rfl | exact Rd.row rfl))) rfl ?_
        refine ops_ro' rfl (ro_assign rfl) rfl ?_
        refine ops_nil ?_
        repeat (first | refine InBlock_normal ?_ | refine NoGoto_normal ?_ | refine Jump_normal ?_)
        refine Then_normal ?_
        refine wp_seq' ?_
        refine wp_region' ?_
        refine ops_ro' rfl (ro_fieldAddr fa30_4 rfl) rfl ?_
        refine ops_ro' rfl (ro_load sc27 rfl (by first | exact Rd.pick 0 rfl (by first | exact Rd.own rfl | exact Rd.row rfl) | exact Rd.pick 1 rfl (by first | exact Rd.own rfl | exact Rd.row rfl) | exact Rd.pick 2 rfl (by first | exact Rd.own rfl | exact Rd.row rfl) | exact Rd.pick 3 rfl (by first | exact Rd.own rfl | exact Rd.row rfl) | exact Rd.pick 4 rfl (by first | exact Rd.own rfl | exact Rd.row rfl) | exact Rd.pick 5 rfl (by first | exact Rd.own rfl | exact Rd.row rfl) | exact Rd.pick 6 rfl (by first | exact Rd.own rfl | exact Rd.row rfl) | exact Rd.pick 7 rfl (by first | exact Rd.own rfl | exact Rd.row rfl))) rfl ?_
        refine ops_ro' rfl (ro_assign rfl) rfl ?_
        refine ops_nil ?_
        repeat (first | refine InBlock_normal ?_ | refine NoGoto_normal ?_ | refine Jump_normal ?_)
        refine Then_normal ?_
        refine wp_seq' ?_
        refine wp_seq' ?_
        refine wp_region' ?_
        refine ops_ro' rfl (ro_fieldAddr fa30_0 rfl) rfl ?_
        refine ops_ro' rfl (ro_load sc27 rfl (by first | exact Rd.pick 0 rfl (by first | exact Rd.own rfl | exact Rd.row rfl) | exact Rd.pick 1 rfl (by first | exact Rd.own rfl | exact Rd.row rfl) | exact Rd.pick 2 rfl (by first | exact Rd.own rfl | exact Rd.row rfl) | exact Rd.pick 3 rfl (by first | exact Rd.own rfl | exact Rd.row rfl) | exact Rd.pick 4 rfl (by first | exact Rd.own rfl | exact Rd.row rfl) | exact Rd.pick 5 rfl (by first | exact Rd.own rfl | exact Rd.row rfl) | exact Rd.pick 6 rfl (by first | exact Rd.own rfl | exact Rd.row rfl) | exact Rd.pick 7 rfl (by first | exact Rd.own rfl | exact Rd.row rfl))) rfl ?_
        refine ops_ro' rfl (ro_and rfl rfl (and32 hy.f (c := 4) (by decide) rfl)) rfl ?_
        refine ops_ro' rfl (ro_neq rfl rfl rfl) rfl ?_
        refine ops_nil ?_
        repeat (first | refine InBlock_normal ?_ | refine NoGoto_normal ?_ | refine Jump_normal ?_)
        refine Then_normal ?_
        refine wp_cond' rfl (fun hc4 => ?_) (fun hc4 => ?_)
        · try replace hc4 := of_decide_eq_true hc4
          refine wp_region' ?_
          refine ops_ro' rfl (ro_fieldAddr fa30_4 rfl) rfl ?_
          refine ops_ro' rfl (ro_load sc27 rfl (by first | exact Rd.pick 0 rfl (by first | exact Rd.own rfl | exact Rd.row rfl) | exact Rd.pick 1 rfl (by first | exact Rd.own rfl | exact Rd.row rfl) | exact Rd.pick 2 rfl (by first | exact Rd.own rfl | exact Rd.row rfl) | exact Rd.pick 3 rfl (by first | exact Rd.own rfl | exact Rd.row rfl) | exact Rd.pick 4 rfl (by first | exact Rd.own rfl | exact Rd.row rfl) | exact Rd.pick 5 rfl (by first | exact Rd.own rfl | exact Rd.row rfl) | exact Rd.pick 6 rfl (by first | exact Rd.own rfl | exact Rd.row rfl) | exact Rd.pick 7 rfl (by first | exact Rd.own rfl | exact Rd.row rfl))) rfl ?_
          refine ops_ro' rfl (ro_assign rfl) rfl ?_
          refine ops_nil ?_
          repeat (first | refine InBlock_normal ?_ | refine NoGoto_normal ?_ | refine Jump_normal ?_)
          refine Then_normal ?_
          refine wp_seq' ?_
          refine wp_region' ?_
          refine ops_ro' rfl (ro_fieldAddr fa30_1 rfl) rfl ?_
          refine ops_ro' rfl (ro_load sc28 rfl (by first | exact Rd.pick 0 rfl (by first | exact Rd.own rfl | exact Rd.row rfl) | exact Rd.pick 1 rfl (by first | exact Rd.own rfl | exact Rd.row rfl) | exact Rd.pick 2 rfl (by first | exact Rd.own rfl | exact Rd.row rfl) | exact Rd.pick 3 rfl (by first | exact Rd.own rfl | exact Rd.row rfl) | exact Rd.pick 4 rfl (by first | exact Rd.own rfl | exact Rd.row rfl) | exact Rd.pick 5 rfl (by first | exact Rd.own rfl | exact Rd.row rfl) | exact Rd.pick 6 rfl (by first | exact Rd.own rfl | exact Rd.row rfl) | exact Rd.pick 7 rfl (by first | exact Rd.own rfl | exact Rd.row rfl))) rfl ?_
          refine ops_ro' rfl (ro_move rfl) rfl ?_
          refine ops_ro' rfl (ro_eql rfl rfl (decide_eq_true (by first | exact congrArg Int.ofNat (ms1 _ _ (by omega)) | exact congrArg Int.ofNat (ms0 _ _ (by omega))))) rfl ?_
          refine ops_ro' rfl (ro_move rfl) rfl ?_
          refine ops_ro' rfl (ro_fieldAddr fa30_4 rfl) rfl ?_
          refine ops_ro' rfl (ro_load sc27 rfl (by first | exact Rd.pick 0 rfl (by first | exact Rd.own rfl | exact Rd.row rfl) | exact Rd.pick 1 rfl (by first | exact Rd.own rfl | exact Rd.row rfl) | exact Rd.pick 2 rfl (by first | exact Rd.own rfl | exact Rd.row rfl) | exact Rd.pick 3 rfl (by first | exact Rd.own rfl | exact Rd.row rfl) | exact Rd.pick 4 rfl (by first | exact Rd.own rfl | exact Rd.row rfl) | exact Rd.pick 5 rfl (by first | exact Rd.own rfl | exact Rd.row rfl) | exact Rd.pick 6 rfl (by first | exact Rd.own rfl | exact Rd.row rfl) | exact Rd.pick 7 rfl (by first | exact Rd.own rfl | exact Rd.row rfl))) rfl ?_
          refine ops_ro' rfl (ro_move rfl) rfl ?_
          refine ops_ro' rfl (ro_eql rfl rfl (decide_eq_true (by first | exact congrArg Int.ofNat (mm1 _ _ (by omega)) | exact congrArg Int.ofNat (mm0 _ _ (by omega))))) rfl ?_
          refine ops_ro' rfl (ro_pick rfl rfl) rfl ?_
          refine ops_ro' rfl (ro_move rfl) rfl ?_
          refine ops_eff' rfl (eff_call Try.call33 rfl rfl (Split.nil _) (known_spec)) rfl ?_
          rintro _ H' ⟨_, ⟨rfl, rfl⟩, hH⟩
          simp only [List.cons_append, List.nil_append, List.eraseIdx_cons_zero, List.eraseIdx_cons_succ, List.set_cons_zero, List.set_cons_succ] at hH
          subst hH
          refine ops_ro' rfl (ro_pick rfl rfl) rfl ?_
          refine ops_ro' rfl (ro_assign rfl) rfl ?_
          refine ops_nil ?_
          repeat (first | refine InBlock_normal ?_ | refine NoGoto_normal ?_ | refine Jump_normal ?_)
          refine Then_normal ?_
          refine wp_ret' ?_
          repeat (first | refine Then_ret ?_ | refine InBlock_ret ?_ | refine NoGoto_ret ?_ | refine Jump_ret ?_)
          refine done_ret (res1 rfl rfl) ?_
          exact ⟨rfl, by simp⟩
        · try replace hc4 := of_decide_eq_false hc4
          refine wp_skip' ?_
          repeat (first | refine InBlock_normal ?_ | refine NoGoto_normal ?_ | refine Jump_normal ?_)
          refine Then_normal ?_
          refine wp_seq' ?_
          refine wp_region' ?_
          refine ops_ro' rfl (ro_fieldAddr fa30_1 rfl) rfl ?_
          refine ops_ro' rfl (ro_load sc28 rfl (by first | exact Rd.pick 0 rfl (by first | exact Rd.own rfl | exact Rd.row rfl) | exact Rd.pick 1 rfl (by first | exact Rd.own rfl | exact Rd.row rfl) | exact Rd.pick 2 rfl (by first | exact Rd.own rfl | exact Rd.row rfl) | exact Rd.pick 3 rfl (by first | exact Rd.own rfl | exact Rd.row rfl) | exact Rd.pick 4 rfl (by first | exact Rd.own rfl | exact Rd.row rfl) | exact Rd.pick 5 rfl (by first | exact Rd.own rfl | exact Rd.row rfl) | exact Rd.pick 6 rfl (by first | exact Rd.own rfl | exact Rd.row rfl) | exact Rd.pick 7 rfl (by first | exact Rd.own rfl | exact Rd.row rfl))) rfl ?_
          refine ops_ro' rfl (ro_move rfl) rfl ?_
          refine ops_ro' rfl (ro_eql rfl rfl (decide_eq_true (by first | exact congrArg Int.ofNat (ms1 _ _ (by omega)) | exact congrArg Int.ofNat (ms0 _ _ (by omega))))) rfl ?_
          refine ops_ro' rfl (ro_move rfl) rfl ?_
          refine ops_ro' rfl (ro_fieldAddr fa30_4 rfl) rfl ?_
          refine ops_ro' rfl (ro_load sc27 rfl (by first | exact Rd.pick 0 rfl (by first | exact Rd.own rfl | exact Rd.row rfl) | exact Rd.pick 1 rfl (by first | exact Rd.own rfl | exact Rd.row rfl) | exact Rd.pick 2 rfl (by first | exact Rd.own rfl | exact Rd.row rfl) | exact Rd.pick 3 rfl (by first | exact Rd.own rfl | exact Rd.row rfl) | exact Rd.pick 4 rfl (by first | exact Rd.own rfl | exact Rd.row rfl) | exact Rd.pick 5 rfl (by first | exact Rd.own rfl | exact Rd.row rfl) | exact Rd.pick 6 rfl (by first | exact Rd.own rfl | exact Rd.row rfl) | exact Rd.pick 7 rfl (by first | exact Rd.own rfl | exact Rd.row rfl))) rfl ?_
          refine ops_ro' rfl (ro_move rfl) rfl ?_
          refine ops_ro' rfl (ro_eql rfl rfl (decide_eq_true (by first | exact congrArg Int.ofNat (mm1 _ _ (by omega)) | exact congrArg Int.ofNat (mm0 _ _ (by omega))))) rfl ?_
          refine ops_ro' rfl (ro_pick rfl rfl) rfl ?_
          refine ops_ro' rfl (ro_move rfl) rfl ?_
          refine ops_eff' rfl (eff_call Try.call33 rfl rfl (Split.nil _) (known_spec)) rfl ?_
          rintro _ H' ⟨_, ⟨rfl, rfl⟩, hH⟩
          simp only [List.cons_append, List.nil_append, List.eraseIdx_cons_zero, List.eraseIdx_cons_succ, List.set_cons_zero, List.set_cons_succ] at hH
          subst hH
          refine ops_ro' rfl (ro_pick rfl rfl) rfl ?_
          refine ops_ro' rfl (ro_assign rfl) rfl ?_
          refine ops_nil ?_
          repeat (first | refine InBlock_normal ?_ | refine NoGoto_normal ?_ | refine Jump_normal ?_)
          refine Then_normal ?_
          refine wp_ret' ?_
          repeat (first | refine Then_ret ?_ | refine InBlock_ret ?_ | refine NoGoto_ret ?_ | refine Jump_ret ?_)
          refine done_ret (res1 rfl rfl) ?_
          exact ⟨rfl, by simp⟩
      · try replace hc3 := of_decide_eq_false hc3
        refine wp_skip' ?_
        repeat (first | refine InBlock_normal ?_ | refine NoGoto_normal ?_ | refine Jump_normal ?_)
        refine Then_normal ?_
        refine wp_seq' ?_
        refine wp_region' ?_
        refine ops_ro' rfl (ro_fieldAddr fa30_4 rfl) rfl ?_
        refine ops_ro' rfl (ro_load sc27 rfl (by first | exact Rd.pick 0 rfl (by first | exact Rd.own rfl | exact Rd.row rfl) | exact Rd.pick 1 rfl (by first | exact Rd.own rfl | exact Rd.row rfl) | exact Rd.pick 2 rfl (by first | exact Rd.own rfl | exact Rd.row rfl) | exact Rd.pick 3 rfl (by first | exact Rd.own rfl | exact Rd.row rfl) | exact Rd.pick 4 rfl (by first | exact Rd.own rfl | exact Rd.row rfl) | exact Rd.pick 5 rfl (by first | exact Rd.own rfl | exact Rd.row rfl) | exact Rd.pick 6 rfl (by first | exact Rd.own rfl | exact Rd.row rfl) | exact Rd.pick 7 rfl (by first | exact Rd.own rfl | exact Rd.row rfl))) rfl ?_
        refine ops_ro' rfl (ro_assign rfl) rfl ?_
        refine ops_nil ?_
        repeat (first | refine InBlock_normal ?_ | refine NoGoto_normal ?_ | refine Jump_normal ?_)
        refine Then_normal ?_
        refine wp_seq' ?_
        refine wp_seq' ?_
        refine wp_region' ?_
        refine ops_ro' rfl (ro_fieldAddr fa30_0 rfl) rfl ?_
        refine ops_ro' rfl (ro_load sc27 rfl (by first | exact Rd.pick 0 rfl (by first | exact Rd.own rfl | exact Rd.row rfl) | exact Rd.pick 1 rfl (by first | exact Rd.own rfl | exact Rd.row rfl) | exact Rd.pick 2 rfl (by first | exact Rd.own rfl | exact Rd.row rfl) | exact Rd.pick 3 rfl (by first | exact Rd.own rfl | exact Rd.row rfl) | exact Rd.pick 4 rfl (by first | exact Rd.own rfl | exact Rd.row rfl) | exact Rd.pick 5 rfl (by first | exact Rd.own rfl | exact Rd.row rfl) | exact Rd.pick 6 rfl (by first | exact Rd.own rfl | exact Rd.row rfl) | exact Rd.pick 7 rfl (by first | exact Rd.own rfl | exact Rd.row rfl))) rfl ?_
        refine ops_ro' rfl (ro_and rfl rfl (and32 hy.f (c := 4) (by decide) rfl)) rfl ?_
        refine ops_ro' rfl (ro_neq rfl rfl rfl) rfl ?_
        refine ops_nil ?_
        repeat (first | refine InBlock_normal ?_ | refine NoGoto_normal ?_ | refine Jump_normal ?_)
        refine Then_normal ?_
        refine wp_cond' rfl (fun hc5 => ?_) (fun hc5 => ?_)
        · try replace hc5 := of_decide_eq_true hc5
          refine wp_region' ?_
          refine ops_ro' rfl (ro_fieldAddr fa30_4 rfl) rfl ?_
          refine ops_ro' rfl (ro_load sc27 rfl (by first | exact Rd.pick 0 rfl (by first | exact Rd.own rfl | exact Rd.row rfl) | exact Rd.pick 1 rfl (by first | exact Rd.own rfl | exact Rd.row rfl) | exact Rd.pick 2 rfl (by first | exact Rd.own rfl | exact Rd.row rfl) | exact Rd.pick 3 rfl (by first | exact Rd.own rfl | exact Rd.row rfl) | exact Rd.pick 4 rfl (by first | exact Rd.own rfl | exact Rd.row rfl) | exact Rd.pick 5 rfl (by first | exact Rd.own rfl | exact Rd.row rfl) | exact Rd.pick 6 rfl (by first | exact Rd.own rfl | exact Rd.row rfl) | exact Rd.pick 7 rfl (by first | exact Rd.own rfl | exact Rd.row rfl))) rfl ?_
          refine ops_ro' rfl (ro_assign rfl) rfl ?_
          refine ops_nil ?_
          repeat (first | refine InBlock_normal ?_ | refine NoGoto_normal ?_ | refine Jump_normal ?_)
          refine Then_normal ?_
          refine wp_seq' ?_
          refine wp_region' ?_
          refine ops_ro' rfl (ro_fieldAddr fa30_1 rfl) rfl ?_
          refine ops_ro' rfl (ro_load sc28 rfl (by first | exact Rd.pick 0 rfl (by first | exact Rd.own rfl | exact Rd.row rfl) | exact Rd.pick 1 rfl (by first | exact Rd.own rfl | exact Rd.row rfl) | exact Rd.pick 2 rfl (by first | exact Rd.own rfl | exact Rd.row rfl) | exact Rd.pick 3 rfl (by first | exact Rd.own rfl | exact Rd.row rfl) | exact Rd.pick 4 rfl (by first | exact Rd.own rfl | exact Rd.row rfl) | exact Rd.pick 5 rfl (by first | exact Rd.own rfl | exact Rd.row rfl) | exact Rd.pick 6 rfl (by first | exact Rd.own rfl | exact Rd.row rfl) | exact Rd.pick 7 rfl (by first | exact Rd.own rfl | exact Rd.row rfl))) rfl ?_
          refine ops_ro' rfl (ro_move rfl) rfl ?_
          refine ops_ro' rfl (ro_eql rfl rfl (decide_eq_true (by first | exact congrArg Int.ofNat (ms1 _ _ (by omega)) | exact congrArg Int.ofNat (ms0 _ _ (by omega))))) rfl ?_
          refine ops_ro' rfl (ro_move rfl) rfl ?_
          refine ops_ro' rfl (ro_fieldAddr fa30_4 rfl) rfl ?_
          refine ops_ro' rfl (ro_load sc27 rfl (by first | exact Rd.pick 0 rfl (by first | exact Rd.own rfl | exact Rd.row rfl) | exact Rd.pick 1 rfl (by first | exact Rd.own rfl | exact Rd.row rfl) | exact Rd.pick 2 rfl (by first | exact Rd.own rfl | exact Rd.row rfl) | exact Rd.pick 3 rfl (by first | exact Rd.own rfl | exact Rd.row rfl) | exact Rd.pick 4 rfl (by first | exact Rd.own rfl | exact Rd.row rfl) | exact Rd.pick 5 rfl (by first | exact Rd.own rfl | exact Rd.row rfl) | exact Rd.pick 6 rfl (by first | exact Rd.own rfl | exact Rd.row rfl) | exact Rd.pick 7 rfl (by first | exact Rd.own rfl | exact Rd.row rfl))) rfl ?_
          refine ops_ro' rfl (ro_move rfl) rfl ?_
          refine ops_ro' rfl (ro_eql rfl rfl (decide_eq_true (by first | exact congrArg Int.ofNat (mm1 _ _ (by omega)) | exact congrArg Int.ofNat (mm0 _ _ (by omega))))) rfl ?_
          refine ops_ro' rfl (ro_pick rfl rfl) rfl ?_
          refine ops_ro' rfl (ro_move rfl) rfl ?_
          refine ops_eff' rfl (eff_call Try.call33 rfl rfl (Split.nil _) (known_spec)) rfl ?_
          rintro _ H' ⟨_, ⟨rfl, rfl⟩, hH⟩
          simp only [List.cons_append, List.nil_append, List.eraseIdx_cons_zero, List.eraseIdx_cons_succ, List.set_cons_zero, List.set_cons_succ] at hH
          subst hH
          refine ops_ro' rfl (ro_pick rfl rfl) rfl ?_
          refine ops_ro' rfl (ro_assign rfl) rfl ?_
          refine ops_nil ?_
          repeat (first | refine InBlock_normal ?_ | refine NoGoto_normal ?_ | refine Jump_normal ?_)
          refine Then_normal ?_
          refine wp_ret' ?_
          repeat (first | refine Then_ret ?_ | refine InBlock_ret ?_ | refine NoGoto_ret ?_ | refine Jump_ret ?_)
          refine done_ret (res1 rfl rfl) ?_
          exact ⟨rfl, by simp⟩
        · try replace hc5 := of_decide_eq_false hc5
          refine wp_skip' ?_
          repeat (first | refine InBlock_normal ?_ | refine NoGoto_normal ?_ | refine Jump_normal ?_)
          refine Then_normal ?_
          refine wp_seq' ?_
          refine wp_region' ?_
          refine ops_ro' rfl (ro_fieldAddr fa30_1 rfl) rfl ?_
          refine ops_ro' rfl (ro_load sc28 rfl (by first | exact Rd.pick 0 rfl (by first | exact Rd.own rfl | exact Rd.row rfl) | exact Rd.pick 1 rfl (by first | exact Rd.own rfl | exact Rd.row rfl) | exact Rd.pick 2 rfl (by first | exact Rd.own rfl | exact Rd.row rfl) | exact Rd.pick 3 rfl (by first | exact Rd.own rfl | exact Rd.row rfl) | exact Rd.pick 4 rfl (by first | exact Rd.own rfl | exact Rd.row rfl) | exact Rd.pick 5 rfl (by first | exact Rd.own rfl | exact Rd.row rfl) | exact Rd.pick 6 rfl (by first | exact Rd.own rfl | exact Rd.row rfl) | exact Rd.pick 7 rfl (by first | exact Rd.own rfl | exact Rd.row rfl))) rfl ?_
          refine ops_ro' rfl (ro_move rfl) rfl ?_
          refine ops_ro' rfl (ro_eql rfl rfl (decide_eq_true (by first | exact congrArg Int.ofNat (ms1 _ _ (by omega)) | exact congrArg Int.ofNat (ms0 _ _ (by omega))))) rfl ?_
          refine ops_ro' rfl (ro_move rfl) rfl ?_
          refine ops_ro' rfl (ro_fieldAddr fa30_4 rfl) rfl ?_
          refine ops_ro' rfl (ro_load sc27 rfl (by first | exact Rd.pick 0 rfl (by first | exact Rd.own rfl | exact Rd.row rfl) | exact Rd.pick 1 rfl (by first | exact Rd.own rfl | exact Rd.row rfl) | exact Rd.pick 2 rfl (by first | exact Rd.own rfl | exact Rd.row rfl) | exact Rd.pick 3 rfl (by first | exact Rd.own rfl | exact Rd.row rfl) | exact Rd.pick 4 rfl (by first | exact Rd.own rfl | exact Rd.row rfl) | exact Rd.pick 5 rfl (by first | exact Rd.own rfl | exact Rd.row rfl) | exact Rd.pick 6 rfl (by first | exact Rd.own rfl | exact Rd.row rfl) | exact Rd.pick 7 rfl (by first | exact Rd.own rfl | exact Rd.row rfl))) rfl ?_
          refine ops_ro' rfl (ro_move rfl) rfl ?_
          refine ops_ro' rfl (ro_eql rfl rfl (decide_eq_true (by first | exact congrArg Int.ofNat (mm1 _ _ (by omega)) | exact congrArg Int.ofNat (mm0 _ _ (by omega))))) rfl ?_
          refine ops_ro' rfl (ro_pick rfl rfl) rfl ?_
          refine ops_ro' rfl (ro_move rfl) rfl ?_
          refine ops_eff' rfl (eff_call Try.call33 rfl rfl (Split.nil _) (known_spec)) rfl ?_
          rintro _ H' ⟨_, ⟨rfl, rfl⟩, hH⟩
          simp only [List.cons_append, List.nil_append, List.eraseIdx_cons_zero, List.eraseIdx_cons_succ, List.set_cons_zero, List.set_cons_succ] at hH
          subst hH
          refine ops_ro' rfl (ro_pick rfl rfl) rfl ?_
          refine ops_ro' rfl (ro_assign rfl) rfl ?_
          refine ops_nil ?_
          repeat (first | refine InBlock_normal ?_ | refine NoGoto_normal ?_ | refine Jump_normal ?_)
          refine Then_normal ?_
          refine wp_ret' ?_
          repeat (first | refine Then_ret ?_ | refine InBlock_ret ?_ | refine NoGoto_ret ?_ | refine Jump_ret ?_)
          refine done_ret (res1 rfl rfl) ?_
          exact ⟨rfl, by simp⟩

end Go.Proofs.Ytbiohhfibkolgaa
