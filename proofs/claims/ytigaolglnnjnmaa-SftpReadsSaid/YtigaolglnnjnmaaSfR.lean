/-
  Law 17: bytes read the same by both.
-/
import Derived.Test.YtigaolglnnjnmaaSfQ
import Derived.Test.YtigaolglnnjnmaaSfK
import Derived.Test.YtigaolglnnjnmaaSfC
namespace Go.Proofs.Ytigaolglnnjnmaa
open Go.Sx
set_option linter.unusedVariables false
set_option linter.unusedSimpArgs false
set_option maxRecDepth 100000
set_option maxHeartbeats 4000000

theorem kreply_same (V : HProp) (c : Pc) (dp1 dp2 np1 np2 : Option Addr) (dn1 dn2 nn1 nn2 : Nat) (h1d : Vw V (.slice dp1 c.d.length dn1) c.d.length (cel c.d)) (h2d : Vw V (.slice dp2 c.d.length dn2) c.d.length (cel c.d)) (h1n : Vw V (.slice np1 c.ns.length nn1) c.ns.length (flat Nm.cs c.ns)) (h2n : Vw V (.slice np2 c.ns.length nn2) c.ns.length (flat Nm.cs c.ns)) (hl : c.ns.length ≤ 140737488355328) :
    Tri Try.prog 75 [c.v dp1 dn1 np1 nn1, c.v dp2 dn2 np2 nn2] [V] (fun v H' => ∃ K, (v = .bool true ∧ K = []) ∧ H' = K ++ [V]) := by
  refine tri_of_wpS Try.func75 rfl Try.ntmps75 (by simp) ?_
  refine wp_seq' ?_
  refine wp_region' ?_
  refine ops_eff' rfl (eff_box rfl) rfl ?_
  rintro _ _ ⟨b2, rfl, rfl⟩
  refine ops_eff' rfl (eff_box rfl) rfl ?_
  rintro _ _ ⟨b3, rfl, rfl⟩
  refine ops_ro' rfl (ro_assign rfl) rfl ?_
  refine ops_nil ?_
  refine Then_normal ?_
  refine wp_seq' ?_
  refine wp_region' ?_
  refine ops_ro' rfl (ro_fieldAddr fa66_0 rfl) rfl ?_
  refine ops_ro' rfl (ro_load sc3 rfl (Rd.pick 1 rfl (Rd.own rfl))) rfl ?_
  refine ops_ro' rfl (ro_fieldAddr fa66_0 rfl) rfl ?_
  refine ops_ro' rfl (ro_load sc3 rfl (Rd.pick 0 rfl (Rd.own rfl))) rfl ?_
  refine ops_ro' rfl (ro_eql rfl rfl (decide_eq_true (by omega))) rfl ?_
  refine ops_ro' rfl (ro_move (v := .bool true) rfl) rfl ?_
  refine ops_ro' rfl (ro_fieldAddr fa66_1 rfl) rfl ?_
  refine ops_ro' rfl (ro_load sc3 rfl (Rd.pick 1 rfl (Rd.own rfl))) rfl ?_
  refine ops_ro' rfl (ro_fieldAddr fa66_1 rfl) rfl ?_
  refine ops_ro' rfl (ro_load sc3 rfl (Rd.pick 0 rfl (Rd.own rfl))) rfl ?_
  refine ops_ro' rfl (ro_eql rfl rfl (decide_eq_true (by omega))) rfl ?_
  refine ops_ro' rfl (ro_pick rfl rfl) rfl ?_
  refine ops_ro' rfl (ro_move (v := .bool true) rfl) rfl ?_
  refine ops_ro' rfl (ro_fieldAddr fa66_2 rfl) rfl ?_
  refine ops_ro' rfl (ro_load sc9 rfl (Rd.pick 1 rfl (Rd.own rfl))) rfl ?_
  refine ops_ro' rfl (ro_fieldAddr fa66_2 rfl) rfl ?_
  refine ops_ro' rfl (ro_load sc9 rfl (Rd.pick 0 rfl (Rd.own rfl))) rfl ?_
  refine ops_ro' rfl (ro_eqlS rfl rfl (decide_eq_true rfl)) rfl ?_
  refine ops_ro' rfl (ro_pick rfl rfl) rfl ?_
  refine ops_ro' rfl (ro_move (v := .bool true) rfl) rfl ?_
  refine ops_ro' rfl (ro_fieldAddr fa66_3 rfl) rfl ?_
  refine ops_ro' rfl (ro_load sc32 rfl (Rd.pick 1 rfl (Rd.own rfl))) rfl ?_
  refine ops_ro' rfl (ro_toStr Try.underlying32 Try.underlying5 Try.underlying9 rfl (Vw.pick 2 rfl h1d) rfl) rfl ?_
  refine ops_ro' rfl (ro_fieldAddr fa66_3 rfl) rfl ?_
  refine ops_ro' rfl (ro_load sc32 rfl (Rd.pick 0 rfl (Rd.own rfl))) rfl ?_
  refine ops_ro' rfl (ro_toStr Try.underlying32 Try.underlying5 Try.underlying9 rfl (Vw.pick 2 rfl h2d) rfl) rfl ?_
  refine ops_ro' rfl (ro_eqlS rfl rfl (decide_eq_true rfl)) rfl ?_
  refine ops_ro' rfl (ro_pick rfl rfl) rfl ?_
  refine ops_ro' rfl (ro_move (v := .bool true) rfl) rfl ?_
  refine ops_ro' rfl (ro_fieldAddr fa66_4 rfl) rfl ?_
  refine ops_ro' rfl (ro_load sc64 rfl (Rd.pick 1 rfl (Rd.own rfl))) rfl ?_
  refine ops_ro' rfl (ro_fieldAddr fa66_4 rfl) rfl ?_
  refine ops_ro' rfl (ro_load sc64 rfl (Rd.pick 0 rfl (Rd.own rfl))) rfl ?_
  refine ops_eff' rfl (eff_callM (Pre := []) Try.call41 rfl rfl (Split.nil _) (knames_same _ c.ns np1 np2 nn1 nn2 (by first | exact Vw.pick 0 rfl h1n | exact Vw.pick 1 rfl h1n | exact Vw.pick 2 rfl h1n) (by first | exact Vw.pick 0 rfl h2n | exact Vw.pick 1 rfl h2n | exact Vw.pick 2 rfl h2n) hl)) rfl ?_
  rintro _ H' ⟨_, ⟨rfl, rfl⟩, hH⟩
  simp only [List.cons_append, List.nil_append, List.eraseIdx_cons_zero, List.eraseIdx_cons_succ, List.set_cons_zero, List.set_cons_succ] at hH
  subst hH
  refine ops_ro' rfl (ro_pick rfl rfl) rfl ?_
  refine ops_ro' rfl (ro_move (v := .bool true) rfl) rfl ?_
  refine ops_ro' rfl (ro_fieldAddr fa66_5 rfl) rfl ?_
  refine ops_ro' rfl (ro_loadA ag54 rfl (RdN.of_pick 1 rfl (rdn_sub 7)) rfl) rfl ?_
  refine ops_ro' rfl (ro_fieldAddr fa66_5 rfl) rfl ?_
  refine ops_ro' rfl (ro_loadA ag54 rfl (RdN.of_pick 0 rfl (rdn_sub 7)) rfl) rfl ?_
  refine ops_ro' rfl (ro_attrEq rfl rfl (c := true) (by simp)) rfl ?_
  refine ops_ro' rfl (ro_pick rfl rfl) rfl ?_
  refine ops_ro' rfl (ro_assign rfl) rfl ?_
  refine ops_nil ?_
  refine Then_normal ?_
  refine wp_ret' ?_
  refine' doneS_ret (res1 rfl rfl) ?_ ?_
  rotate_left 1
  exact ⟨_, ⟨rfl, rfl⟩, rfl⟩
  exact (SubH.cons 2 rfl (SubH.nil _))
theorem lstN_len : ∀ (n : Nat) (r : R), (lstN n r).2.length ≤ n := fun n => by
  induction n with
  | zero => intro r; simp [lstN]
  | succ n ih =>
    intro r
    unfold lstN
    split
    · simp
    · simp only [List.length_cons]; have := ih ((r.text 256).1.text 256).1.attrs.1; omega
theorem decP_ns (b : List UInt8) : (decP b).2.1.ns.length ≤ 4294967296 := by
  unfold decP
  split
  · simp [Pc.zero]
  split
  · simp [Pc.zero]
  split
  · generalize (((R.new b).get 1).1.get 4).1 = r
    unfold decB
    split
    · simp [Pc.zero]
    split
    · simp [Pc.zero]
    split
    · simp [Pc.zero]
    split
    · have h1 := lstN_len (r.get 4).2 (gateN (r.get 4).1 (r.get 4).2 100)
      have h2 := get_lt r 4
      simp only [Nat.reducePow] at h2
      show (readL r).2.length ≤ _
      unfold readL; omega
    · simp [Pc.zero]
  · simp [Pc.zero]


theorem request_spec (V : HProp) (p : Option Addr) (c : Nat) (b : List UInt8) (hV : Vw V (.slice p b.length c) b.length (cel b)) (hc : b.length ≤ c) (hb : b.length ≤ 140737488355328) : Tri Try.prog 36 [.slice p b.length c] [V] (fun v H' => ∃ K, (v = .bool true ∧ K = []) ∧ H' = K ++ [V]) := by
  refine tri_of_wpS Try.func36 rfl Try.ntmps36 (by simp) ?_
  refine wp_seq' ?_
  refine wp_region' ?_
  refine ops_ro' rfl (ro_assign rfl) rfl ?_
  refine ops_nil ?_
  refine Then_normal ?_
  refine wp_seq' ?_
  refine wp_region' ?_
  refine ops_ro' rfl (ro_move rfl) rfl ?_
  refine ops_eff' rfl (eff_callM (Pre := []) Try.call28 rfl rfl (Split.nil _) (sfDec_K _ p c b (by first | exact (Vw.pick 0 rfl hV) | exact (Vw.pick 1 rfl hV) | exact (Vw.pick 2 rfl hV) | exact (Vw.pick 3 rfl hV) | exact (Vw.pick 4 rfl hV) | exact (Vw.pick 5 rfl hV) | exact (Vw.pick 6 rfl hV) | exact Vw.pick 0 rfl Vw.row | exact Vw.pick 1 rfl Vw.row | exact Vw.pick 2 rfl Vw.row | exact Vw.pick 3 rfl Vw.row | exact Vw.pick 4 rfl Vw.row | exact Vw.pick 5 rfl Vw.row | exact Vw.pick 6 rfl Vw.row | exact Vw.nil _ | exact Vw.empty _ _) hb)) rfl ?_
  rintro _ H' ⟨_, ⟨dp1, dn1, rfl, rfl⟩, hH⟩
  simp only [List.cons_append, List.nil_append, List.eraseIdx_cons_zero, List.eraseIdx_cons_succ, List.set_cons_zero, List.set_cons_succ] at hH
  subst hH
  refine ops_ro' rfl (ro_move rfl) rfl ?_
  refine ops_ro' rfl (ro_extract rfl rfl) rfl ?_
  refine ops_ro' rfl (ro_extract rfl rfl) rfl ?_
  refine ops_ro' rfl (ro_extract rfl rfl) rfl ?_
  refine ops_eff' rfl (eff_alloc z56) rfl ?_
  rintro _ _ ⟨b4, rfl, rfl⟩
  refine ops_ro' rfl (ro_assign rfl) rfl ?_
  refine ops_eff0 rfl (eff_storeA 0 ag56 rfl rfl rfl rfl rfl (Nat.le_of_ble_eq_true rfl) (warm_zero _)) rfl ?_
  rintro _ _ rfl
  refine ops_ro' rfl (ro_assign rfl) rfl ?_
  refine ops_nil ?_
  refine Then_normal ?_
  refine wp_seq' ?_
  refine wp_region' ?_
  refine ops_ro' rfl (ro_move rfl) rfl ?_
  refine ops_eff' rfl (eff_callM (Pre := []) Try.call73 rfl rfl (Split.nil _) (r17Dec_spec _ p c b (by first | exact (Vw.pick 0 rfl hV) | exact (Vw.pick 1 rfl hV) | exact (Vw.pick 2 rfl hV) | exact (Vw.pick 3 rfl hV) | exact (Vw.pick 4 rfl hV) | exact (Vw.pick 5 rfl hV) | exact (Vw.pick 6 rfl hV) | exact Vw.pick 0 rfl Vw.row | exact Vw.pick 1 rfl Vw.row | exact Vw.pick 2 rfl Vw.row | exact Vw.pick 3 rfl Vw.row | exact Vw.pick 4 rfl Vw.row | exact Vw.pick 5 rfl Vw.row | exact Vw.pick 6 rfl Vw.row | exact Vw.nil _ | exact Vw.empty _ _) hc hb)) rfl ?_
  rintro _ H' ⟨_, ⟨dp2, dn2, rfl, rfl⟩, hH⟩
  simp only [List.cons_append, List.nil_append, List.eraseIdx_cons_zero, List.eraseIdx_cons_succ, List.set_cons_zero, List.set_cons_succ] at hH
  subst hH
  generalize decQ b = t at *
  obtain ⟨id, x, e⟩ := t
  dsimp only
  refine ops_ro' rfl (ro_move rfl) rfl ?_
  refine ops_ro' rfl (ro_extract rfl rfl) rfl ?_
  refine ops_ro' rfl (ro_extract rfl rfl) rfl ?_
  refine ops_ro' rfl (ro_extract rfl rfl) rfl ?_
  refine ops_eff' rfl (eff_alloc z56) rfl ?_
  rintro _ _ ⟨b7, rfl, rfl⟩
  refine ops_ro' rfl (ro_assign rfl) rfl ?_
  refine ops_eff0 rfl (eff_storeA 0 ag56 rfl rfl rfl rfl rfl (Nat.le_of_ble_eq_true rfl) (warm_zero _)) rfl ?_
  rintro _ _ rfl
  refine ops_ro' rfl (ro_assign rfl) rfl ?_
  refine ops_nil ?_
  refine Then_normal ?_
  refine wp_seq' ?_
  refine wp_region' ?_
  refine ops_ro' rfl (ro_move rfl) rfl ?_
  refine ops_ro' rfl (ro_move rfl) rfl ?_
  refine ops_ro' rfl (ro_eql rfl rfl (decide_eq_true (by omega))) rfl ?_
  refine ops_ro' rfl (ro_move (v := .bool true) rfl) rfl ?_
  refine ops_ro' rfl (ro_loadA ag56 rfl (RdN.of_pick 2 rfl rdn_all) rfl) rfl ?_
  refine ops_ro' rfl (ro_loadA ag56 rfl (RdN.of_pick 0 rfl rdn_all) rfl) rfl ?_
  refine ops_eff' rfl (eff_callM (Pre := []) Try.call31 rfl rfl (Split.nil _) (kReq_spec _ x x dp1 dp2 dn1 dn2 (by first | exact (Vw.pick 0 rfl hV) | exact (Vw.pick 1 rfl hV) | exact (Vw.pick 2 rfl hV) | exact (Vw.pick 3 rfl hV) | exact (Vw.pick 4 rfl hV) | exact (Vw.pick 5 rfl hV) | exact (Vw.pick 6 rfl hV) | exact Vw.pick 0 rfl Vw.row | exact Vw.pick 1 rfl Vw.row | exact Vw.pick 2 rfl Vw.row | exact Vw.pick 3 rfl Vw.row | exact Vw.pick 4 rfl Vw.row | exact Vw.pick 5 rfl Vw.row | exact Vw.pick 6 rfl Vw.row | exact Vw.nil _ | exact Vw.empty _ _) (by first | exact (Vw.pick 0 rfl hV) | exact (Vw.pick 1 rfl hV) | exact (Vw.pick 2 rfl hV) | exact (Vw.pick 3 rfl hV) | exact (Vw.pick 4 rfl hV) | exact (Vw.pick 5 rfl hV) | exact (Vw.pick 6 rfl hV) | exact Vw.pick 0 rfl Vw.row | exact Vw.pick 1 rfl Vw.row | exact Vw.pick 2 rfl Vw.row | exact Vw.pick 3 rfl Vw.row | exact Vw.pick 4 rfl Vw.row | exact Vw.pick 5 rfl Vw.row | exact Vw.pick 6 rfl Vw.row | exact Vw.nil _ | exact Vw.empty _ _))) rfl ?_
  rintro _ H' ⟨_, ⟨rfl, rfl⟩, hH⟩
  simp only [List.cons_append, List.nil_append, List.eraseIdx_cons_zero, List.eraseIdx_cons_succ, List.set_cons_zero, List.set_cons_succ] at hH
  subst hH
  rw [decide_eq_true (rfl : x = x)]
  refine ops_ro' rfl (ro_pick rfl rfl) rfl ?_
  refine ops_ro' rfl (ro_move (v := .bool true) rfl) rfl ?_
  refine ops_ro' rfl (ro_move rfl) rfl ?_
  refine ops_ro' rfl (ro_move rfl) rfl ?_
  refine ops_ro' rfl (ro_eql rfl rfl (decide_eq_true (by omega))) rfl ?_
  refine ops_ro' rfl (ro_pick rfl rfl) rfl ?_
  refine ops_ro' rfl (ro_assign rfl) rfl ?_
  refine ops_nil ?_
  refine Then_normal ?_
  refine wp_ret' ?_
  refine' doneS_ret (res1 rfl rfl) ?_ ?_
  rotate_left 1
  exact ⟨_, ⟨rfl, rfl⟩, rfl⟩
  exact (SubH.cons 4 rfl (SubH.nil _))
theorem reply_spec (V : HProp) (p : Option Addr) (c : Nat) (b : List UInt8) (hV : Vw V (.slice p b.length c) b.length (cel b)) (hc : b.length ≤ c) (hb : b.length ≤ 140737488355328) : Tri Try.prog 37 [.slice p b.length c] [V] (fun v H' => ∃ K, (v = .bool true ∧ K = []) ∧ H' = K ++ [V]) := by
  refine tri_of_wpS Try.func37 rfl Try.ntmps37 (by simp) ?_
  refine wp_seq' ?_
  refine wp_region' ?_
  refine ops_ro' rfl (ro_assign rfl) rfl ?_
  refine ops_nil ?_
  refine Then_normal ?_
  refine wp_seq' ?_
  refine wp_region' ?_
  refine ops_ro' rfl (ro_move rfl) rfl ?_
  refine ops_eff' rfl (eff_callM (Pre := []) Try.call40 rfl rfl (Split.nil _) (sfDecP_K _ p c b (by first | exact (Vw.pick 0 rfl hV) | exact (Vw.pick 1 rfl hV) | exact (Vw.pick 2 rfl hV) | exact (Vw.pick 3 rfl hV) | exact (Vw.pick 4 rfl hV) | exact (Vw.pick 5 rfl hV) | exact (Vw.pick 6 rfl hV) | exact (Vw.pick 7 rfl hV) | exact (Vw.pick 8 rfl hV) | exact Vw.pick 0 rfl Vw.row | exact Vw.pick 1 rfl Vw.row | exact Vw.pick 2 rfl Vw.row | exact Vw.pick 3 rfl Vw.row | exact Vw.pick 4 rfl Vw.row | exact Vw.pick 5 rfl Vw.row | exact Vw.pick 6 rfl Vw.row | exact Vw.pick 7 rfl Vw.row | exact Vw.pick 8 rfl Vw.row | exact Vw.nil _ | exact Vw.empty _ _) hb)) rfl ?_
  rintro _ H' ⟨_, ⟨dp1, dn1, np1, nn1, rfl, rfl⟩, hH⟩
  simp only [List.cons_append, List.nil_append, List.eraseIdx_cons_zero, List.eraseIdx_cons_succ, List.set_cons_zero, List.set_cons_succ] at hH
  subst hH
  refine ops_ro' rfl (ro_move rfl) rfl ?_
  refine ops_ro' rfl (ro_extract rfl rfl) rfl ?_
  refine ops_ro' rfl (ro_extract rfl rfl) rfl ?_
  refine ops_ro' rfl (ro_extract rfl rfl) rfl ?_
  refine ops_eff' rfl (eff_alloc z66) rfl ?_
  rintro _ _ ⟨b4, rfl, rfl⟩
  refine ops_ro' rfl (ro_assign rfl) rfl ?_
  refine ops_eff0 rfl (eff_storeA 0 ag66 rfl rfl rfl rfl rfl (Nat.le_of_ble_eq_true rfl) (warm_zero _)) rfl ?_
  rintro _ _ rfl
  refine ops_ro' rfl (ro_assign rfl) rfl ?_
  refine ops_nil ?_
  refine Then_normal ?_
  refine wp_seq' ?_
  refine wp_region' ?_
  refine ops_ro' rfl (ro_move rfl) rfl ?_
  refine ops_eff' rfl (eff_callM (Pre := []) Try.call74 rfl rfl (Split.nil _) (r17DecP_spec _ p c b (by first | exact (Vw.pick 0 rfl hV) | exact (Vw.pick 1 rfl hV) | exact (Vw.pick 2 rfl hV) | exact (Vw.pick 3 rfl hV) | exact (Vw.pick 4 rfl hV) | exact (Vw.pick 5 rfl hV) | exact (Vw.pick 6 rfl hV) | exact (Vw.pick 7 rfl hV) | exact (Vw.pick 8 rfl hV) | exact Vw.pick 0 rfl Vw.row | exact Vw.pick 1 rfl Vw.row | exact Vw.pick 2 rfl Vw.row | exact Vw.pick 3 rfl Vw.row | exact Vw.pick 4 rfl Vw.row | exact Vw.pick 5 rfl Vw.row | exact Vw.pick 6 rfl Vw.row | exact Vw.pick 7 rfl Vw.row | exact Vw.pick 8 rfl Vw.row | exact Vw.nil _ | exact Vw.empty _ _) hc hb)) rfl ?_
  rintro _ H' ⟨_, ⟨dp2, dn2, np2, nn2, rfl, rfl⟩, hH⟩
  simp only [List.cons_append, List.nil_append, List.eraseIdx_cons_zero, List.eraseIdx_cons_succ, List.set_cons_zero, List.set_cons_succ] at hH
  subst hH
  have hns := decP_ns b
  generalize decP b = t at *
  obtain ⟨id, x, e⟩ := t
  dsimp only at hns ⊢
  refine ops_ro' rfl (ro_move rfl) rfl ?_
  refine ops_ro' rfl (ro_extract rfl rfl) rfl ?_
  refine ops_ro' rfl (ro_extract rfl rfl) rfl ?_
  refine ops_ro' rfl (ro_extract rfl rfl) rfl ?_
  refine ops_eff' rfl (eff_alloc z66) rfl ?_
  rintro _ _ ⟨b7, rfl, rfl⟩
  refine ops_ro' rfl (ro_assign rfl) rfl ?_
  refine ops_eff0 rfl (eff_storeA 0 ag66 rfl rfl rfl rfl rfl (Nat.le_of_ble_eq_true rfl) (warm_zero _)) rfl ?_
  rintro _ _ rfl
  refine ops_ro' rfl (ro_assign rfl) rfl ?_
  refine ops_nil ?_
  refine Then_normal ?_
  refine wp_seq' ?_
  refine wp_region' ?_
  refine ops_ro' rfl (ro_move rfl) rfl ?_
  refine ops_ro' rfl (ro_move rfl) rfl ?_
  refine ops_ro' rfl (ro_eql rfl rfl (decide_eq_true (by omega))) rfl ?_
  refine ops_ro' rfl (ro_move (v := .bool true) rfl) rfl ?_
  refine ops_ro' rfl (ro_loadA ag66 rfl (RdN.of_pick 3 rfl rdn_all) rfl) rfl ?_
  refine ops_ro' rfl (ro_loadA ag66 rfl (RdN.of_pick 0 rfl rdn_all) rfl) rfl ?_
  refine ops_eff' rfl (eff_callM (Pre := []) Try.call75 rfl rfl (Split.nil _) (kreply_same _ x dp1 dp2 np1 np2 dn1 dn2 nn1 nn2 (by first | exact (Vw.pick 0 rfl hV) | exact (Vw.pick 1 rfl hV) | exact (Vw.pick 2 rfl hV) | exact (Vw.pick 3 rfl hV) | exact (Vw.pick 4 rfl hV) | exact (Vw.pick 5 rfl hV) | exact (Vw.pick 6 rfl hV) | exact (Vw.pick 7 rfl hV) | exact (Vw.pick 8 rfl hV) | exact Vw.pick 0 rfl Vw.row | exact Vw.pick 1 rfl Vw.row | exact Vw.pick 2 rfl Vw.row | exact Vw.pick 3 rfl Vw.row | exact Vw.pick 4 rfl Vw.row | exact Vw.pick 5 rfl Vw.row | exact Vw.pick 6 rfl Vw.row | exact Vw.pick 7 rfl Vw.row | exact Vw.pick 8 rfl Vw.row | exact Vw.nil _ | exact Vw.empty _ _) (by first | exact (Vw.pick 0 rfl hV) | exact (Vw.pick 1 rfl hV) | exact (Vw.pick 2 rfl hV) | exact (Vw.pick 3 rfl hV) | exact (Vw.pick 4 rfl hV) | exact (Vw.pick 5 rfl hV) | exact (Vw.pick 6 rfl hV) | exact (Vw.pick 7 rfl hV) | exact (Vw.pick 8 rfl hV) | exact Vw.pick 0 rfl Vw.row | exact Vw.pick 1 rfl Vw.row | exact Vw.pick 2 rfl Vw.row | exact Vw.pick 3 rfl Vw.row | exact Vw.pick 4 rfl Vw.row | exact Vw.pick 5 rfl Vw.row | exact Vw.pick 6 rfl Vw.row | exact Vw.pick 7 rfl Vw.row | exact Vw.pick 8 rfl Vw.row | exact Vw.nil _ | exact Vw.empty _ _) (by first | exact (Vw.pick 0 rfl hV) | exact (Vw.pick 1 rfl hV) | exact (Vw.pick 2 rfl hV) | exact (Vw.pick 3 rfl hV) | exact (Vw.pick 4 rfl hV) | exact (Vw.pick 5 rfl hV) | exact (Vw.pick 6 rfl hV) | exact (Vw.pick 7 rfl hV) | exact (Vw.pick 8 rfl hV) | exact Vw.pick 0 rfl Vw.row | exact Vw.pick 1 rfl Vw.row | exact Vw.pick 2 rfl Vw.row | exact Vw.pick 3 rfl Vw.row | exact Vw.pick 4 rfl Vw.row | exact Vw.pick 5 rfl Vw.row | exact Vw.pick 6 rfl Vw.row | exact Vw.pick 7 rfl Vw.row | exact Vw.pick 8 rfl Vw.row | exact Vw.nil _ | exact Vw.empty _ _) (by first | exact (Vw.pick 0 rfl hV) | exact (Vw.pick 1 rfl hV) | exact (Vw.pick 2 rfl hV) | exact (Vw.pick 3 rfl hV) | exact (Vw.pick 4 rfl hV) | exact (Vw.pick 5 rfl hV) | exact (Vw.pick 6 rfl hV) | exact (Vw.pick 7 rfl hV) | exact (Vw.pick 8 rfl hV) | exact Vw.pick 0 rfl Vw.row | exact Vw.pick 1 rfl Vw.row | exact Vw.pick 2 rfl Vw.row | exact Vw.pick 3 rfl Vw.row | exact Vw.pick 4 rfl Vw.row | exact Vw.pick 5 rfl Vw.row | exact Vw.pick 6 rfl Vw.row | exact Vw.pick 7 rfl Vw.row | exact Vw.pick 8 rfl Vw.row | exact Vw.nil _ | exact Vw.empty _ _) (by omega))) rfl ?_
  rintro _ H' ⟨_, ⟨rfl, rfl⟩, hH⟩
  simp only [List.cons_append, List.nil_append, List.eraseIdx_cons_zero, List.eraseIdx_cons_succ, List.set_cons_zero, List.set_cons_succ] at hH
  subst hH
  refine ops_ro' rfl (ro_pick rfl rfl) rfl ?_
  refine ops_ro' rfl (ro_move (v := .bool true) rfl) rfl ?_
  refine ops_ro' rfl (ro_move rfl) rfl ?_
  refine ops_ro' rfl (ro_move rfl) rfl ?_
  refine ops_ro' rfl (ro_eql rfl rfl (decide_eq_true (by omega))) rfl ?_
  refine ops_ro' rfl (ro_pick rfl rfl) rfl ?_
  refine ops_ro' rfl (ro_assign rfl) rfl ?_
  refine ops_nil ?_
  refine Then_normal ?_
  refine wp_ret' ?_
  refine' doneS_ret (res1 rfl rfl) ?_ ?_
  rotate_left 1
  exact ⟨_, ⟨rfl, rfl⟩, rfl⟩
  exact (SubH.cons 6 rfl (SubH.nil _))

end Go.Proofs.Ytigaolglnnjnmaa
