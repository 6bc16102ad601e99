/-
  The walk of SessionNumbers.
-/
import Derived.Test.YtbiohhfibkolgaaRef21B
namespace Go.Proofs.Ytbiohhfibkolgaa
open Go.Sx
set_option linter.unusedVariables false
set_option linter.unusedSimpArgs false
set_option maxRecDepth 100000
set_option maxHeartbeats 4000000

theorem tenc_ge : ∀ l : List (Int × Rc), 68 * l.length ≤ (tenc l).length
  | [] => by simp [tenc]
  | x :: r => by
    have h := tenc_ge r
    have h2 := sc_len x.1 x.2
    unfold tenc at h ⊢
    rw [List.flatMap_cons, List.length_append, List.length_cons]; omega
theorem rc5_sm : (⟨0, 0, [120], [100], [⟨[110], At.zero⟩], At.zero⟩ : Rc).Sm := ⟨by decide, by decide, by decide, by decide, by decide, fun x hx => (by rcases List.mem_singleton.1 hx with rfl; exact ⟨At.zero_ok, by decide⟩), At.zero_ok⟩
def lastX (X : List (Int × Rc)) (c : Nat) : Int := match X[c]? with | some x => x.1 | none => 0
theorem lastOf_sc {E : List En} {X : List (Int × Rc)} (h : E.map En.sc = X) (c : Nat) : lastOf E c = lastX X c := by
  subst h
  unfold lastOf lastX
  rw [if_pos (by omega), Int.toNat_natCast, List.getElem?_map]
  cases E[c]? <;> rfl
theorem snumbers_run (V : HProp) : Tri Try.prog 11 [] [V] (fun v H' => v = .bool true ∧ H' = [V]) := by
  refine tri_of_wpS Try.func11 rfl Try.ntmps11 (by simp) ?_
  refine wp_seq' ?_
  refine wp_region' ?_
  refine ops_ro' rfl (ro_assign rfl) rfl ?_
  refine ops_nil ?_
  refine Then_normal ?_
  refine wp_seq' ?_
  refine wp_region' ?_
  refine ops_eff' rfl (eff_call Try.call14 rfl rfl (by repeat (first | exact Split.nil _ | apply Split.cons 0 rfl | apply Split.cons 1 rfl | apply Split.cons 2 rfl | apply Split.cons 3 rfl | apply Split.cons 4 rfl | apply Split.cons 5 rfl | apply Split.cons 6 rfl | apply Split.cons 7 rfl | apply Split.cons 8 rfl | apply Split.cons 9 rfl | apply Split.cons 10 rfl | apply Split.cons 11 rfl)) (tnew_spec)) rfl ?_
  rintro _ H' ⟨_, ⟨bt, rfl, rfl⟩, hH⟩
  simp only [List.cons_append, List.nil_append, List.eraseIdx_cons_zero, List.eraseIdx_cons_succ, List.set_cons_zero, List.set_cons_succ] at hH
  subst hH
  refine ops_ro' rfl (ro_assign rfl) rfl ?_
  refine ops_nil ?_
  refine Then_normal ?_
  refine wp_seq' ?_
  refine wp_seq' ?_
  refine wp_region' ?_
  refine ops_ro' rfl (ro_move rfl) rfl ?_
  refine ops_ro' rfl (ro_ptrEqlNil Try.underlying23 rfl rfl rfl) rfl ?_
  refine ops_nil ?_
  refine Then_normal ?_
  refine wp_condF rfl ?_
  refine wp_skip' ?_
  refine Then_normal ?_
  refine wp_seq' ?_
  refine wp_region' ?_
  refine ops_ro' rfl (ro_move rfl) rfl ?_
  refine ops_eff' rfl (eff_call Try.call15 rfl rfl (by repeat (first | exact Split.nil _ | apply Split.cons 0 rfl | apply Split.cons 1 rfl | apply Split.cons 2 rfl | apply Split.cons 3 rfl | apply Split.cons 4 rfl | apply Split.cons 5 rfl | apply Split.cons 6 rfl | apply Split.cons 7 rfl | apply Split.cons 8 rfl | apply Split.cons 9 rfl | apply Split.cons 10 rfl | apply Split.cons 11 rfl)) (ask_of bt (List.replicate 16 En.zero) Tbl.zero 16 1)) rfl ?_
  rintro _ H' ⟨_, ⟨how, r0, rfl, hra, _, rfl⟩, hH⟩
  simp only [List.cons_append, List.nil_append, List.eraseIdx_cons_zero, List.eraseIdx_cons_succ, List.set_cons_zero, List.set_cons_succ] at hH
  subst hH
  obtain rfl : how = 0 := by have h0 := congrArg Prod.fst hra; rw [askOf, if_pos (by decide)] at h0; exact h0
  refine ops_ro' rfl (ro_move rfl) rfl ?_
  refine ops_ro' rfl (ro_extract rfl rfl) rfl ?_
  refine ops_ro' rfl (ro_extract rfl rfl) rfl ?_
  refine ops_eff' rfl (eff_alloc z32) rfl ?_
  rintro _ _ ⟨b3, rfl, rfl⟩
  refine ops_ro' rfl (ro_assign rfl) rfl ?_
  refine ops_eff0 rfl (eff_storeA 0 ag32 rfl rfl rfl rfl rfl (Nat.le_of_ble_eq_true rfl) (warm_zero _)) rfl ?_
  rintro _ _ rfl
  refine ops_nil ?_
  refine Then_normal ?_
  refine wp_seq' ?_
  refine wp_region' ?_
  refine ops_ro' rfl (ro_move rfl) rfl ?_
  refine ops_eff' rfl (eff_call Try.call15 rfl rfl (by repeat (first | exact Split.nil _ | apply Split.cons 0 rfl | apply Split.cons 1 rfl | apply Split.cons 2 rfl | apply Split.cons 3 rfl | apply Split.cons 4 rfl | apply Split.cons 5 rfl | apply Split.cons 6 rfl | apply Split.cons 7 rfl | apply Split.cons 8 rfl | apply Split.cons 9 rfl | apply Split.cons 10 rfl | apply Split.cons 11 rfl)) (ask_of bt (List.replicate 16 En.zero) Tbl.zero (-1) 1)) rfl ?_
  rintro _ H' ⟨_, ⟨how, r0, rfl, hra, _, rfl⟩, hH⟩
  simp only [List.cons_append, List.nil_append, List.eraseIdx_cons_zero, List.eraseIdx_cons_succ, List.set_cons_zero, List.set_cons_succ] at hH
  subst hH
  obtain rfl : how = 0 := by have h0 := congrArg Prod.fst hra; rw [askOf, if_pos (by decide)] at h0; exact h0
  refine ops_ro' rfl (ro_move rfl) rfl ?_
  refine ops_ro' rfl (ro_extract rfl rfl) rfl ?_
  refine ops_ro' rfl (ro_extract rfl rfl) rfl ?_
  refine ops_eff' rfl (eff_alloc z32) rfl ?_
  rintro _ _ ⟨b5, rfl, rfl⟩
  refine ops_ro' rfl (ro_assign rfl) rfl ?_
  refine ops_eff0 rfl (eff_storeA 0 ag32 rfl rfl rfl rfl rfl (Nat.le_of_ble_eq_true rfl) (warm_zero _)) rfl ?_
  rintro _ _ rfl
  refine ops_nil ?_
  refine Then_normal ?_
  refine wp_seq' ?_
  refine wp_region' ?_
  refine ops_ro' rfl (ro_move rfl) rfl ?_
  refine ops_eff' rfl (eff_call Try.call15 rfl rfl (by repeat (first | exact Split.nil _ | apply Split.cons 0 rfl | apply Split.cons 1 rfl | apply Split.cons 2 rfl | apply Split.cons 3 rfl | apply Split.cons 4 rfl | apply Split.cons 5 rfl | apply Split.cons 6 rfl | apply Split.cons 7 rfl | apply Split.cons 8 rfl | apply Split.cons 9 rfl | apply Split.cons 10 rfl | apply Split.cons 11 rfl)) (ask_of bt (List.replicate 16 En.zero) Tbl.zero 0 0)) rfl ?_
  rintro _ H' ⟨_, ⟨how, r0, rfl, hra, _, rfl⟩, hH⟩
  simp only [List.cons_append, List.nil_append, List.eraseIdx_cons_zero, List.eraseIdx_cons_succ, List.set_cons_zero, List.set_cons_succ] at hH
  subst hH
  obtain rfl : how = 0 := by have h0 := congrArg Prod.fst hra; rw [askOf, if_pos (by decide)] at h0; exact h0
  refine ops_ro' rfl (ro_move rfl) rfl ?_
  refine ops_ro' rfl (ro_extract rfl rfl) rfl ?_
  refine ops_ro' rfl (ro_extract rfl rfl) rfl ?_
  refine ops_eff' rfl (eff_alloc z32) rfl ?_
  rintro _ _ ⟨b7, rfl, rfl⟩
  refine ops_ro' rfl (ro_assign rfl) rfl ?_
  refine ops_eff0 rfl (eff_storeA 0 ag32 rfl rfl rfl rfl rfl (Nat.le_of_ble_eq_true rfl) (warm_zero _)) rfl ?_
  rintro _ _ rfl
  refine ops_nil ?_
  refine Then_normal ?_
  refine wp_seq' ?_
  refine wp_region' ?_
  refine ops_ro' rfl (ro_move rfl) rfl ?_
  refine ops_eff' rfl (eff_call Try.call15 rfl rfl (by repeat (first | exact Split.nil _ | apply Split.cons 0 rfl | apply Split.cons 1 rfl | apply Split.cons 2 rfl | apply Split.cons 3 rfl | apply Split.cons 4 rfl | apply Split.cons 5 rfl | apply Split.cons 6 rfl | apply Split.cons 7 rfl | apply Split.cons 8 rfl | apply Split.cons 9 rfl | apply Split.cons 10 rfl | apply Split.cons 11 rfl)) (ask_of bt (List.replicate 16 En.zero) Tbl.zero 0 1073741825)) rfl ?_
  rintro _ H' ⟨_, ⟨how, r0, rfl, hra, _, rfl⟩, hH⟩
  simp only [List.cons_append, List.nil_append, List.eraseIdx_cons_zero, List.eraseIdx_cons_succ, List.set_cons_zero, List.set_cons_succ] at hH
  subst hH
  obtain rfl : how = 0 := by have h0 := congrArg Prod.fst hra; rw [askOf, if_pos (by decide)] at h0; exact h0
  refine ops_ro' rfl (ro_move rfl) rfl ?_
  refine ops_ro' rfl (ro_extract rfl rfl) rfl ?_
  refine ops_ro' rfl (ro_extract rfl rfl) rfl ?_
  refine ops_eff' rfl (eff_alloc z32) rfl ?_
  rintro _ _ ⟨b9, rfl, rfl⟩
  refine ops_ro' rfl (ro_assign rfl) rfl ?_
  refine ops_eff0 rfl (eff_storeA 0 ag32 rfl rfl rfl rfl rfl (Nat.le_of_ble_eq_true rfl) (warm_zero _)) rfl ?_
  rintro _ _ rfl
  refine ops_nil ?_
  refine Then_normal ?_
  refine wp_seq' ?_
  refine wp_region' ?_
  refine ops_ro' rfl (ro_move rfl) rfl ?_
  refine ops_eff' rfl (eff_buildSlice rfl (sbld (cs := cel [100]) [.int .u8 0] sl25 (by decide) (by kernel_rfl) rfl)) rfl ?_
  rintro _ _ ⟨b44, rfl, rfl⟩
  refine ops_eff' rfl (eff_mark 0 Try.underlying25 Try.underlying5 rfl rfl rfl (by decide)) rfl ?_
  rintro _ _ ⟨rfl, rfl⟩
  simp only [List.set_cons_zero, List.set_cons_succ]
  refine ops_ro' rfl (ro_build rfl (bld_struct (cs := Nm.cs ⟨[110], At.zero⟩) st46 rfl)) rfl ?_
  refine ops_eff' rfl (eff_lit sl26 rfl (sbld (cs := ncs [⟨[110], At.zero⟩]) [(.string ByteArray.empty), (.int .u32 0), (.int .u64 0), (.int .u32 0), (.int .u32 0), (.int .u32 0), (.int .u32 0), (.int .u32 0)] sl26 (by decide) (by kernel_rfl) rfl) rfl (by decide)) rfl ?_
  rintro _ _ ⟨b47, rfl, rfl⟩
  refine ops_ro' rfl (ro_build rfl (bld_struct (cs := Rp.cs (⟨(⟨0, 0, [120], [100], [⟨[110], At.zero⟩], At.zero⟩ : Rc), some ⟨b44, 0, none⟩, 1, some ⟨b47, 0, none⟩, 1⟩ : Rp)) st32 rfl)) rfl ?_
  refine ops_eff' rfl (eff_callM (Pre := [_, _]) Try.call16 rfl rfl (by repeat (first | exact Split.nil _ | apply Split.cons 0 rfl | apply Split.cons 1 rfl | apply Split.cons 2 rfl | apply Split.cons 3 rfl | apply Split.cons 4 rfl | apply Split.cons 5 rfl | apply Split.cons 6 rfl | apply Split.cons 7 rfl | apply Split.cons 8 rfl | apply Split.cons 9 rfl | apply Split.cons 10 rfl | apply Split.cons 11 rfl)) (done_of bt (List.replicate 16 En.zero) Tbl.zero 15 5 (⟨(⟨0, 0, [120], [100], [⟨[110], At.zero⟩], At.zero⟩ : Rc), some ⟨b44, 0, none⟩, 1, some ⟨b47, 0, none⟩, 1⟩ : Rp) _ ⟨(by first | exact Vw.pick 0 rfl Vw.row | exact Vw.pick 1 rfl Vw.row | exact Vw.pick 2 rfl Vw.row | exact Vw.pick 3 rfl Vw.row | exact Vw.pick 4 rfl Vw.row | exact Vw.pick 5 rfl Vw.row | exact Vw.pick 6 rfl Vw.row | exact Vw.pick 7 rfl Vw.row | exact Vw.pick 8 rfl Vw.row | exact Vw.pick 9 rfl Vw.row | exact Vw.pick 10 rfl Vw.row | exact Vw.pick 11 rfl Vw.row | exact Vw.pick 12 rfl Vw.row | exact Vw.pick 13 rfl Vw.row | exact Vw.pick 14 rfl Vw.row | exact Vw.pick 15 rfl Vw.row | exact Vw.pick 16 rfl Vw.row | exact Vw.pick 17 rfl Vw.row | exact Vw.pick 18 rfl Vw.row | exact Vw.pick 19 rfl Vw.row | exact Vw.pick 20 rfl Vw.row | exact Vw.pick 21 rfl Vw.row | exact Vw.pick 22 rfl Vw.row | exact Vw.pick 23 rfl Vw.row | exact Vw.nil _), (by first | exact Vw.pick 0 rfl Vw.row | exact Vw.pick 1 rfl Vw.row | exact Vw.pick 2 rfl Vw.row | exact Vw.pick 3 rfl Vw.row | exact Vw.pick 4 rfl Vw.row | exact Vw.pick 5 rfl Vw.row | exact Vw.pick 6 rfl Vw.row | exact Vw.pick 7 rfl Vw.row | exact Vw.pick 8 rfl Vw.row | exact Vw.pick 9 rfl Vw.row | exact Vw.pick 10 rfl Vw.row | exact Vw.pick 11 rfl Vw.row | exact Vw.pick 12 rfl Vw.row | exact Vw.pick 13 rfl Vw.row | exact Vw.pick 14 rfl Vw.row | exact Vw.pick 15 rfl Vw.row | exact Vw.pick 16 rfl Vw.row | exact Vw.pick 17 rfl Vw.row | exact Vw.pick 18 rfl Vw.row | exact Vw.pick 19 rfl Vw.row | exact Vw.pick 20 rfl Vw.row | exact Vw.pick 21 rfl Vw.row | exact Vw.pick 22 rfl Vw.row | exact Vw.pick 23 rfl Vw.row | exact Vw.nil _)⟩ rc5_sm)) rfl ?_
  rintro _ H' ⟨_, ⟨d, E1, hd, hT1, rfl, rfl⟩, hH⟩
  simp only [List.cons_append, List.nil_append, List.eraseIdx_cons_zero, List.eraseIdx_cons_succ, List.set_cons_zero, List.set_cons_succ] at hH
  subst hH
  obtain ⟨rfl, hX⟩ : d = 0 ∧ E1.map En.sc = (((List.replicate 16 En.zero).map En.sc).set 15 (5, (⟨0, 0, [120], [100], [⟨[110], At.zero⟩], At.zero⟩ : Rc))) := by
    have h0 : doneOf ((List.replicate 16 En.zero).map En.sc) 15 5 (⟨0, 0, [120], [100], [⟨[110], At.zero⟩], At.zero⟩ : Rc) = (0, (((List.replicate 16 En.zero).map En.sc).set 15 (5, (⟨0, 0, [120], [100], [⟨[110], At.zero⟩], At.zero⟩ : Rc)))) := rfl
    have h1 := hd.symm.trans h0
    injection h1 with h2 h3
    exact ⟨h2, h3⟩
  refine ops_ro' rfl (ro_assign rfl) rfl ?_
  refine ops_nil ?_
  refine Then_normal ?_
  refine wp_seq' ?_
  refine wp_region' ?_
  refine ops_ro' rfl (ro_move rfl) rfl ?_
  refine ops_ro' rfl (ro_build rfl (bld_struct (cs := Rp.zero.cs) st32 rfl)) rfl ?_
  refine ops_eff' rfl (eff_callM (Pre := [_, _]) Try.call16 rfl rfl (by repeat (first | exact Split.nil _ | apply Split.cons 0 rfl | apply Split.cons 1 rfl | apply Split.cons 2 rfl | apply Split.cons 3 rfl | apply Split.cons 4 rfl | apply Split.cons 5 rfl | apply Split.cons 6 rfl | apply Split.cons 7 rfl | apply Split.cons 8 rfl | apply Split.cons 9 rfl | apply Split.cons 10 rfl | apply Split.cons 11 rfl)) (done_of bt E1 hT1 15 2 Rp.zero _ ⟨Vw.nil _, Vw.nil _⟩ Rc.zero_sm)) rfl ?_
  rintro _ H' ⟨_, ⟨d, E2, hd, hT2, rfl, rfl⟩, hH⟩
  simp only [List.cons_append, List.nil_append, List.eraseIdx_cons_zero, List.eraseIdx_cons_succ, List.set_cons_zero, List.set_cons_succ] at hH
  subst hH
  rw [hX] at hd
  obtain ⟨rfl, hX2⟩ : d = 1 ∧ E2.map En.sc = (((List.replicate 16 En.zero).map En.sc).set 15 (5, (⟨0, 0, [120], [100], [⟨[110], At.zero⟩], At.zero⟩ : Rc))) := by
    have h0 : doneOf (((List.replicate 16 En.zero).map En.sc).set 15 (5, (⟨0, 0, [120], [100], [⟨[110], At.zero⟩], At.zero⟩ : Rc))) 15 2 Rc.zero = (1, (((List.replicate 16 En.zero).map En.sc).set 15 (5, (⟨0, 0, [120], [100], [⟨[110], At.zero⟩], At.zero⟩ : Rc)))) := rfl
    have h1 := hd.symm.trans h0
    injection h1 with h2 h3
    exact ⟨h2, h3⟩
  refine ops_ro' rfl (ro_assign rfl) rfl ?_
  refine ops_nil ?_
  refine Then_normal ?_
  refine wp_seq' ?_
  refine wp_region' ?_
  refine ops_ro' rfl (ro_move rfl) rfl ?_
  refine ops_eff' rfl (eff_call Try.call15 rfl rfl (by repeat (first | exact Split.nil _ | apply Split.cons 0 rfl | apply Split.cons 1 rfl | apply Split.cons 2 rfl | apply Split.cons 3 rfl | apply Split.cons 4 rfl | apply Split.cons 5 rfl | apply Split.cons 6 rfl | apply Split.cons 7 rfl | apply Split.cons 8 rfl | apply Split.cons 9 rfl | apply Split.cons 10 rfl | apply Split.cons 11 rfl)) (ask_of bt E2 hT2 15 2)) rfl ?_
  rintro _ H' ⟨_, ⟨how, r0, rfl, hra, _, rfl⟩, hH⟩
  simp only [List.cons_append, List.nil_append, List.eraseIdx_cons_zero, List.eraseIdx_cons_succ, List.set_cons_zero, List.set_cons_succ] at hH
  subst hH
  obtain rfl : how = 3 := by rw [hX2] at hra; have h0 := congrArg Prod.fst hra; exact h0
  refine ops_ro' rfl (ro_move rfl) rfl ?_
  refine ops_ro' rfl (ro_extract rfl rfl) rfl ?_
  refine ops_ro' rfl (ro_extract rfl rfl) rfl ?_
  refine ops_eff' rfl (eff_alloc z32) rfl ?_
  rintro _ _ ⟨b13, rfl, rfl⟩
  refine ops_ro' rfl (ro_assign rfl) rfl ?_
  refine ops_eff0 rfl (eff_storeA 0 ag32 rfl rfl rfl rfl rfl (Nat.le_of_ble_eq_true rfl) (warm_zero _)) rfl ?_
  rintro _ _ rfl
  refine ops_nil ?_
  refine Then_normal ?_
  refine wp_seq' ?_
  refine wp_region' ?_
  refine ops_ro' rfl (ro_move rfl) rfl ?_
  refine ops_eff' rfl (eff_call Try.call47 rfl rfl (by repeat (first | exact Split.nil _ | apply Split.cons 0 rfl | apply Split.cons 1 rfl | apply Split.cons 2 rfl | apply Split.cons 3 rfl | apply Split.cons 4 rfl | apply Split.cons 5 rfl | apply Split.cons 6 rfl | apply Split.cons 7 rfl | apply Split.cons 8 rfl | apply Split.cons 9 rfl | apply Split.cons 10 rfl | apply Split.cons 11 rfl)) (save_spec bt E2 hT2.len hT2.ok (by have := hT2.size; omega))) rfl ?_
  rintro _ H' ⟨_, ⟨ps, cs, rfl, rfl⟩, hH⟩
  simp only [List.cons_append, List.nil_append, List.eraseIdx_cons_zero, List.eraseIdx_cons_succ, List.set_cons_zero, List.set_cons_succ] at hH
  subst hH
  refine ops_eff' rfl (eff_call Try.call46 rfl rfl (by repeat (first | exact Split.nil _ | apply Split.cons 0 rfl | apply Split.cons 1 rfl | apply Split.cons 2 rfl | apply Split.cons 3 rfl | apply Split.cons 4 rfl | apply Split.cons 5 rfl | apply Split.cons 6 rfl | apply Split.cons 7 rfl | apply Split.cons 8 rfl | apply Split.cons 9 rfl | apply Split.cons 10 rfl | apply Split.cons 11 rfl)) (load_spec _ _ _ (tenc (E2.map En.sc)) Vw.row (by have := hT2.size; omega))) rfl ?_
  rintro _ H' ⟨_, ⟨K, hK, rfl⟩, hH⟩
  rcases hK with ⟨hn, _, _⟩ | ⟨xs, bu, Eu, hx, _, hEu, hmu, hou, hsu, rfl, rfl⟩
  · exact absurd (hT2.loads.symm.trans hn) (by simp)
  have hmu2 : Eu.map En.sc = E2.map En.sc := by rw [hmu]; exact (Option.some.inj (hT2.loads.symm.trans hx)).symm
  have hTu := hT2.of_map hmu2
  simp only [List.cons_append, List.nil_append, List.eraseIdx_cons_zero, List.eraseIdx_cons_succ, List.set_cons_zero, List.set_cons_succ] at hH
  subst hH
  refine ops_ro' rfl (ro_move rfl) rfl ?_
  refine ops_ro' rfl (ro_extract rfl rfl) rfl ?_
  refine ops_ro' rfl (ro_extract rfl rfl) rfl ?_
  refine ops_ro' rfl (ro_assign rfl) rfl ?_
  refine ops_ro' rfl (ro_assign rfl) rfl ?_
  refine ops_nil ?_
  refine Then_normal ?_
  refine wp_seq' ?_
  refine wp_region' ?_
  refine ops_eff' rfl (eff_buildSlice rfl (sbld (cs := cel [110, 111]) [.int .u8 0, .int .u8 0] sl25 (by decide) (by kernel_rfl) rfl)) rfl ?_
  rintro _ _ ⟨b65, rfl, rfl⟩
  refine ops_eff' rfl (eff_mark 0 Try.underlying25 Try.underlying5 rfl rfl rfl (by decide)) rfl ?_
  rintro _ _ ⟨rfl, rfl⟩
  simp only [List.set_cons_zero, List.set_cons_succ]
  refine ops_eff' rfl (eff_call Try.call46 rfl rfl (by repeat (first | exact Split.nil _ | apply Split.cons 0 rfl | apply Split.cons 1 rfl | apply Split.cons 2 rfl | apply Split.cons 3 rfl | apply Split.cons 4 rfl | apply Split.cons 5 rfl | apply Split.cons 6 rfl | apply Split.cons 7 rfl | apply Split.cons 8 rfl | apply Split.cons 9 rfl | apply Split.cons 10 rfl | apply Split.cons 11 rfl)) (load_spec _ _ _ [110, 111] Vw.row (by decide))) rfl ?_
  rintro _ H' ⟨_, ⟨K, hK, rfl⟩, hH⟩
  rcases hK with ⟨hn, rfl, rfl⟩ | ⟨xs2, b2, E3, hx2, ht2, hE3, hm3, _, _, rfl, rfl⟩
  rotate_left
  · exact absurd (congrArg List.length ht2) (by have := tenc_ge xs2; rw [← hm3, List.length_map, hE3] at this; rw [← hm3]; simp only [List.length_cons, List.length_nil]; omega)
  simp only [List.cons_append, List.nil_append, List.eraseIdx_cons_zero, List.eraseIdx_cons_succ, List.set_cons_zero, List.set_cons_succ] at hH
  subst hH
  refine ops_ro' rfl (ro_move rfl) rfl ?_
  refine ops_ro' rfl (ro_extract rfl rfl) rfl ?_
  refine ops_ro' rfl (ro_extract rfl rfl) rfl ?_
  refine ops_ro' rfl (ro_assign rfl) rfl ?_
  refine ops_ro' rfl (ro_assign rfl) rfl ?_
  refine ops_nil ?_
  refine Then_normal ?_
  refine wp_seq' ?_
  refine wp_seq' ?_
  refine wp_region' ?_
  refine ops_ro' rfl (ro_move rfl) rfl ?_
  refine ops_ro' rfl (ro_ptrEqlNil Try.underlying23 rfl rfl rfl) rfl ?_
  refine ops_ro' rfl (ro_move (v := .bool false) rfl) rfl ?_
  refine ops_ro' rfl (ro_move rfl) rfl ?_
  refine ops_ro' rfl (ro_neq rfl rfl (decide_eq_false (by omega))) rfl ?_
  refine ops_ro' rfl (ro_pick rfl rfl) rfl ?_
  refine ops_nil ?_
  refine Then_normal ?_
  refine wp_condF rfl ?_
  refine wp_skip' ?_
  refine Then_normal ?_
  refine wp_seq' ?_
  refine wp_region' ?_
  refine ops_ro' rfl (ro_move rfl) rfl ?_
  refine ops_eff' rfl (eff_call Try.call15 rfl rfl (by repeat (first | exact Split.nil _ | apply Split.cons 0 rfl | apply Split.cons 1 rfl | apply Split.cons 2 rfl | apply Split.cons 3 rfl | apply Split.cons 4 rfl | apply Split.cons 5 rfl | apply Split.cons 6 rfl | apply Split.cons 7 rfl | apply Split.cons 8 rfl | apply Split.cons 9 rfl | apply Split.cons 10 rfl | apply Split.cons 11 rfl)) (ask_of bu Eu hTu 15 5)) rfl ?_
  rintro _ H' ⟨_, ⟨how, r5, rfl, hra, hnl, rfl⟩, hH⟩
  simp only [List.cons_append, List.nil_append, List.eraseIdx_cons_zero, List.eraseIdx_cons_succ, List.set_cons_zero, List.set_cons_succ] at hH
  subst hH
  rw [hmu2, hX2] at hra
  obtain ⟨rfl, hr5⟩ : how = 2 ∧ r5.c = (⟨0, 0, [120], [100], [⟨[110], At.zero⟩], At.zero⟩ : Rc) := by have h0 : askOf (((List.replicate 16 En.zero).map En.sc).set 15 (5, (⟨0, 0, [120], [100], [⟨[110], At.zero⟩], At.zero⟩ : Rc))) 15 5 = (2, (⟨0, 0, [120], [100], [⟨[110], At.zero⟩], At.zero⟩ : Rc)) := rfl; have h1 := hra.trans h0; injection h1 with h2 h3; exact ⟨h2, h3⟩
  refine ops_ro' rfl (ro_move rfl) rfl ?_
  refine ops_ro' rfl (ro_extract rfl rfl) rfl ?_
  refine ops_ro' rfl (ro_extract rfl rfl) rfl ?_
  refine ops_eff' rfl (eff_alloc z32) rfl ?_
  rintro _ _ ⟨b19, rfl, rfl⟩
  refine ops_ro' rfl (ro_assign rfl) rfl ?_
  refine ops_eff0 rfl (eff_storeA 0 ag32 rfl rfl rfl rfl rfl (Nat.le_of_ble_eq_true rfl) (warm_zero _)) rfl ?_
  rintro _ _ rfl
  refine ops_nil ?_
  refine Then_normal ?_
  refine wp_seq' ?_
  refine wp_region' ?_
  refine ops_ro' rfl (ro_move rfl) rfl ?_
  refine ops_ro' rfl (ro_eql rfl rfl (decide_eq_true (by omega))) rfl ?_
  refine ops_ro' rfl (ro_move (v := .bool true) rfl) rfl ?_
  refine ops_ro' rfl (ro_move rfl) rfl ?_
  refine ops_ro' rfl (ro_eql rfl rfl (decide_eq_true (by omega))) rfl ?_
  refine ops_ro' rfl (ro_pick rfl rfl) rfl ?_
  refine ops_ro' rfl (ro_move (v := .bool true) rfl) rfl ?_
  refine ops_ro' rfl (ro_move rfl) rfl ?_
  refine ops_ro' rfl (ro_eql rfl rfl (decide_eq_true (by omega))) rfl ?_
  refine ops_ro' rfl (ro_pick rfl rfl) rfl ?_
  refine ops_ro' rfl (ro_move (v := .bool true) rfl) rfl ?_
  refine ops_ro' rfl (ro_move rfl) rfl ?_
  refine ops_ro' rfl (ro_eql rfl rfl (decide_eq_true (by omega))) rfl ?_
  refine ops_ro' rfl (ro_pick rfl rfl) rfl ?_
  refine ops_ro' rfl (ro_move (v := .bool true) rfl) rfl ?_
  refine ops_ro' rfl (ro_move rfl) rfl ?_
  refine ops_ro' rfl (ro_eql rfl rfl (decide_eq_true (by omega))) rfl ?_
  refine ops_ro' rfl (ro_pick rfl rfl) rfl ?_
  refine ops_ro' rfl (ro_move (v := .bool true) rfl) rfl ?_
  refine ops_ro' rfl (ro_move rfl) rfl ?_
  refine ops_ro' rfl (ro_eql rfl rfl (decide_eq_true (by omega))) rfl ?_
  refine ops_ro' rfl (ro_pick rfl rfl) rfl ?_
  refine ops_ro' rfl (ro_move (v := .bool true) rfl) rfl ?_
  refine ops_ro' rfl (ro_move rfl) rfl ?_
  refine ops_ro' rfl (ro_eql rfl rfl (decide_eq_true (by omega))) rfl ?_
  refine ops_ro' rfl (ro_pick rfl rfl) rfl ?_
  refine ops_ro' rfl (ro_move (v := .bool true) rfl) rfl ?_
  refine ops_ro' rfl (ro_move rfl) rfl ?_
  refine ops_ro' rfl (ro_eql rfl rfl (decide_eq_true (by omega))) rfl ?_
  refine ops_ro' rfl (ro_pick rfl rfl) rfl ?_
  refine ops_ro' rfl (ro_move (v := .bool true) rfl) rfl ?_
  refine ops_ro' rfl (ro_loadA ag32 rfl (RdN.of_pick 0 rfl rdn_all) rfl) rfl ?_
  refine ops_eff' rfl (eff_buildSlice rfl (sbld (cs := cel [100]) [.int .u8 0] sl25 (by decide) (by kernel_rfl) rfl)) rfl ?_
  rintro _ _ ⟨b113, rfl, rfl⟩
  refine ops_eff' rfl (eff_mark 0 Try.underlying25 Try.underlying5 rfl rfl rfl (by decide)) rfl ?_
  rintro _ _ ⟨rfl, rfl⟩
  simp only [List.set_cons_zero, List.set_cons_succ]
  refine ops_ro' rfl (ro_build rfl (bld_struct (cs := Nm.cs ⟨[110], At.zero⟩) st46 rfl)) rfl ?_
  refine ops_eff' rfl (eff_lit sl26 rfl (sbld (cs := ncs [⟨[110], At.zero⟩]) [(.string ByteArray.empty), (.int .u32 0), (.int .u64 0), (.int .u32 0), (.int .u32 0), (.int .u32 0), (.int .u32 0), (.int .u32 0)] sl26 (by decide) (by kernel_rfl) rfl) rfl (by decide)) rfl ?_
  rintro _ _ ⟨b116, rfl, rfl⟩
  refine ops_ro' rfl (ro_build rfl (bld_struct (cs := Rp.cs (⟨(⟨0, 0, [120], [100], [⟨[110], At.zero⟩], At.zero⟩ : Rc), some ⟨b113, 0, none⟩, 1, some ⟨b116, 0, none⟩, 1⟩ : Rp)) st32 rfl)) rfl ?_
  refine ops_eff' rfl (eff_callM (Pre := []) Try.call17 rfl rfl (Split.nil _) (kreply_same _ r5 (⟨(⟨0, 0, [120], [100], [⟨[110], At.zero⟩], At.zero⟩ : Rc), some ⟨b113, 0, none⟩, 1, some ⟨b116, 0, none⟩, 1⟩ : Rp) ⟨(by first | exact Vw.pick 0 rfl Vw.row | exact Vw.pick 1 rfl Vw.row | exact Vw.pick 2 rfl Vw.row | exact Vw.pick 3 rfl Vw.row | exact Vw.pick 4 rfl Vw.row | exact Vw.pick 5 rfl Vw.row | exact Vw.pick 6 rfl Vw.row | exact Vw.pick 7 rfl Vw.row | exact Vw.pick 8 rfl Vw.row | exact Vw.pick 9 rfl Vw.row | exact Vw.pick 10 rfl Vw.row | exact Vw.pick 11 rfl Vw.row | exact Vw.pick 12 rfl Vw.row | exact Vw.pick 13 rfl Vw.row | exact Vw.pick 14 rfl Vw.row | exact Vw.pick 15 rfl Vw.row | exact Vw.pick 16 rfl Vw.row | exact Vw.pick 17 rfl Vw.row | exact Vw.pick 18 rfl Vw.row | exact Vw.pick 19 rfl Vw.row | exact Vw.pick 20 rfl Vw.row | exact Vw.pick 21 rfl Vw.row | exact Vw.pick 22 rfl Vw.row | exact Vw.pick 23 rfl Vw.row | exact Vw.nil _), (by first | exact Vw.pick 0 rfl Vw.row | exact Vw.pick 1 rfl Vw.row | exact Vw.pick 2 rfl Vw.row | exact Vw.pick 3 rfl Vw.row | exact Vw.pick 4 rfl Vw.row | exact Vw.pick 5 rfl Vw.row | exact Vw.pick 6 rfl Vw.row | exact Vw.pick 7 rfl Vw.row | exact Vw.pick 8 rfl Vw.row | exact Vw.pick 9 rfl Vw.row | exact Vw.pick 10 rfl Vw.row | exact Vw.pick 11 rfl Vw.row | exact Vw.pick 12 rfl Vw.row | exact Vw.pick 13 rfl Vw.row | exact Vw.pick 14 rfl Vw.row | exact Vw.pick 15 rfl Vw.row | exact Vw.pick 16 rfl Vw.row | exact Vw.pick 17 rfl Vw.row | exact Vw.pick 18 rfl Vw.row | exact Vw.pick 19 rfl Vw.row | exact Vw.pick 20 rfl Vw.row | exact Vw.pick 21 rfl Vw.row | exact Vw.pick 22 rfl Vw.row | exact Vw.pick 23 rfl Vw.row | exact Vw.nil _)⟩ ⟨(by first | exact Vw.pick 0 rfl Vw.row | exact Vw.pick 1 rfl Vw.row | exact Vw.pick 2 rfl Vw.row | exact Vw.pick 3 rfl Vw.row | exact Vw.pick 4 rfl Vw.row | exact Vw.pick 5 rfl Vw.row | exact Vw.pick 6 rfl Vw.row | exact Vw.pick 7 rfl Vw.row | exact Vw.pick 8 rfl Vw.row | exact Vw.pick 9 rfl Vw.row | exact Vw.pick 10 rfl Vw.row | exact Vw.pick 11 rfl Vw.row | exact Vw.pick 12 rfl Vw.row | exact Vw.pick 13 rfl Vw.row | exact Vw.pick 14 rfl Vw.row | exact Vw.pick 15 rfl Vw.row | exact Vw.pick 16 rfl Vw.row | exact Vw.pick 17 rfl Vw.row | exact Vw.pick 18 rfl Vw.row | exact Vw.pick 19 rfl Vw.row | exact Vw.pick 20 rfl Vw.row | exact Vw.pick 21 rfl Vw.row | exact Vw.pick 22 rfl Vw.row | exact Vw.pick 23 rfl Vw.row | exact Vw.nil _), (by first | exact Vw.pick 0 rfl Vw.row | exact Vw.pick 1 rfl Vw.row | exact Vw.pick 2 rfl Vw.row | exact Vw.pick 3 rfl Vw.row | exact Vw.pick 4 rfl Vw.row | exact Vw.pick 5 rfl Vw.row | exact Vw.pick 6 rfl Vw.row | exact Vw.pick 7 rfl Vw.row | exact Vw.pick 8 rfl Vw.row | exact Vw.pick 9 rfl Vw.row | exact Vw.pick 10 rfl Vw.row | exact Vw.pick 11 rfl Vw.row | exact Vw.pick 12 rfl Vw.row | exact Vw.pick 13 rfl Vw.row | exact Vw.pick 14 rfl Vw.row | exact Vw.pick 15 rfl Vw.row | exact Vw.pick 16 rfl Vw.row | exact Vw.pick 17 rfl Vw.row | exact Vw.pick 18 rfl Vw.row | exact Vw.pick 19 rfl Vw.row | exact Vw.pick 20 rfl Vw.row | exact Vw.pick 21 rfl Vw.row | exact Vw.pick 22 rfl Vw.row | exact Vw.pick 23 rfl Vw.row | exact Vw.nil _)⟩ hr5 hnl)) rfl ?_
  rintro _ H' ⟨_, ⟨rfl, rfl⟩, hH⟩
  simp only [List.cons_append, List.nil_append, List.eraseIdx_cons_zero, List.eraseIdx_cons_succ, List.set_cons_zero, List.set_cons_succ] at hH
  subst hH
  refine ops_ro' rfl (ro_pick rfl rfl) rfl ?_
  refine ops_ro' rfl (ro_move (v := .bool true) rfl) rfl ?_
  refine ops_ro' rfl (ro_move rfl) rfl ?_
  refine ops_eff' rfl (eff_call Try.call18 rfl rfl (by repeat (first | exact Split.nil _ | apply Split.cons 0 rfl | apply Split.cons 1 rfl | apply Split.cons 2 rfl | apply Split.cons 3 rfl | apply Split.cons 4 rfl | apply Split.cons 5 rfl | apply Split.cons 6 rfl | apply Split.cons 7 rfl | apply Split.cons 8 rfl | apply Split.cons 9 rfl | apply Split.cons 10 rfl | apply Split.cons 11 rfl)) (last_spec bt E2 hT2.len 16)) rfl ?_
  rintro _ H' ⟨_, ⟨rfl, rfl⟩, hH⟩
  simp only [List.cons_append, List.nil_append, List.eraseIdx_cons_zero, List.eraseIdx_cons_succ, List.set_cons_zero, List.set_cons_succ] at hH
  subst hH
  rw [lastOf_out E2 hT2.len (client := 16) (by omega)]
  refine ops_ro' rfl (ro_eql rfl rfl (decide_eq_true (by omega))) rfl ?_
  refine ops_ro' rfl (ro_pick rfl rfl) rfl ?_
  refine ops_ro' rfl (ro_move (v := .bool true) rfl) rfl ?_
  refine ops_ro' rfl (ro_move rfl) rfl ?_
  refine ops_eff' rfl (eff_call Try.call18 rfl rfl (by repeat (first | exact Split.nil _ | apply Split.cons 0 rfl | apply Split.cons 1 rfl | apply Split.cons 2 rfl | apply Split.cons 3 rfl | apply Split.cons 4 rfl | apply Split.cons 5 rfl | apply Split.cons 6 rfl | apply Split.cons 7 rfl | apply Split.cons 8 rfl | apply Split.cons 9 rfl | apply Split.cons 10 rfl | apply Split.cons 11 rfl)) (last_spec bt E2 hT2.len 3)) rfl ?_
  rintro _ H' ⟨_, ⟨rfl, rfl⟩, hH⟩
  simp only [List.cons_append, List.nil_append, List.eraseIdx_cons_zero, List.eraseIdx_cons_succ, List.set_cons_zero, List.set_cons_succ] at hH
  subst hH
  rw [show lastOf E2 3 = 0 from (lastOf_sc hX2 3).trans rfl]
  refine ops_ro' rfl (ro_eql rfl rfl (decide_eq_true (by omega))) rfl ?_
  refine ops_ro' rfl (ro_pick rfl rfl) rfl ?_
  refine ops_ro' rfl (ro_move (v := .bool true) rfl) rfl ?_
  refine ops_ro' rfl (ro_move rfl) rfl ?_
  refine ops_ro' rfl (ro_eql rfl rfl (decide_eq_true (by omega))) rfl ?_
  refine ops_ro' rfl (ro_pick rfl rfl) rfl ?_
  refine ops_ro' rfl (ro_move (v := .bool true) rfl) rfl ?_
  refine ops_eff' rfl (eff_call Try.call19 rfl rfl (by repeat (first | exact Split.nil _ | apply Split.cons 0 rfl | apply Split.cons 1 rfl | apply Split.cons 2 rfl | apply Split.cons 3 rfl | apply Split.cons 4 rfl | apply Split.cons 5 rfl | apply Split.cons 6 rfl | apply Split.cons 7 rfl | apply Split.cons 8 rfl | apply Split.cons 9 rfl | apply Split.cons 10 rfl | apply Split.cons 11 rfl)) (known21_spec)) rfl ?_
  rintro _ H' ⟨_, ⟨rfl, rfl⟩, hH⟩
  simp only [List.cons_append, List.nil_append, List.eraseIdx_cons_zero, List.eraseIdx_cons_succ, List.set_cons_zero, List.set_cons_succ] at hH
  subst hH
  refine ops_ro' rfl (ro_pick rfl rfl) rfl ?_
  refine ops_ro' rfl (ro_assign rfl) rfl ?_
  refine ops_nil ?_
  refine Then_normal ?_
  refine wp_ret' ?_
  refine' doneS_ret (res1 rfl rfl) ?_ ?_
  rotate_left 1
  exact ⟨rfl, rfl⟩
  exact (SubH.cons 28 rfl (SubH.nil _))

end Go.Proofs.Ytbiohhfibkolgaa
