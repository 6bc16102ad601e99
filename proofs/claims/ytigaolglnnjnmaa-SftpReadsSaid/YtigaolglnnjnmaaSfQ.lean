/-
  Package strongroomref17: requests, replies read.
-/
import Derived.Test.YtigaolglnnjnmaaSfN
import Derived.Test.YtigaolglnnjnmaaSfI
import Derived.Test.YtigaolglnnjnmaaRPure
import Derived.Test.YtigaolglnnjnmaaAuthL
namespace Go.Proofs.Ytigaolglnnjnmaa
open Go.Sx
set_option linter.unusedVariables false
set_option linter.unusedSimpArgs false
set_option maxRecDepth 100000
set_option maxHeartbeats 4000000

theorem on_attrs {r : R} {b : List UInt8} (h : r.On b) : r.attrs.1.On b := by
  have h1 := R.on_get h 4
  have hg : (R.gate (r.get 4).1 (r.get 4).2).On b := by unfold R.gate; split; exact R.on_fail h1 _; exact h1
  have a1 : ∀ q : R × At, q.1.On b → (R.s1 q).1.On b := fun q h => by unfold R.s1; split; exact R.on_get h 8; exact h
  have a2 : ∀ q : R × At, q.1.On b → (R.s2 q).1.On b := fun q h => by unfold R.s2; split; exact R.on_get (R.on_get h 4) 4; exact h
  have a3 : ∀ q : R × At, q.1.On b → (R.s3 q).1.On b := fun q h => by unfold R.s3; split; exact R.on_get h 4; exact h
  have a4 : ∀ q : R × At, q.1.On b → (R.s4 q).1.On b := fun q h => by unfold R.s4; split; exact R.on_get (R.on_get h 4) 4; exact h
  have hb : ∀ (q : R) (x : At), q.On b → (q.body x).1.On b := fun q x h => a4 _ (a3 _ (a2 _ (a1 _ h)))
  unfold R.attrs
  split
  · exact hg
  · split
    · exact hb _ _ hg
    · exact hb _ _ hg


theorem r17Dec_spec (V : HProp) (p : Option Addr) (c : Nat) (b : List UInt8) (hV : Vw V (.slice p b.length c) b.length (cel b)) (hc : b.length ≤ c) (hb : b.length ≤ 140737488355328) : Tri Try.prog 73 [.slice p b.length c] [V]
    (fun v H' => ∃ K, (∃ dp dn, v = .tuple #[.int .u32 ((decQ b).1 : Int), (decQ b).2.1.v dp dn, .int .i64 (decQ b).2.2] ∧ K = [row 5 1 (.slice dp (decQ b).2.1.da.length dn) (decQ b).2.1.da.length (cel (decQ b).2.1.da)]) ∧ H' = K ++ [V]) := by
  refine tri_of_wpS Try.func73 rfl Try.ntmps73 (by simp) ?_
  refine wp_seq' ?_
  refine wp_region' ?_
  refine ops_ro' rfl (ro_assign rfl) rfl ?_
  refine ops_eff' rfl (eff_alloc z56) rfl ?_
  rintro _ _ ⟨b3, rfl, rfl⟩
  refine ops_ro' rfl (ro_assign rfl) rfl ?_
  refine ops_nil ?_
  refine Then_normal ?_
  refine wp_seq' ?_
  refine wp_seq' ?_
  refine wp_region' ?_
  refine ops_ro' rfl (ro_move rfl) rfl ?_
  refine ops_ro' rfl (ro_sliceLen Try.underlying32 rfl) rfl ?_
  refine ops_ro' rfl (ro_lss rfl rfl rfl) rfl ?_
  refine ops_nil ?_
  refine Then_normal ?_
  refine wp_cond' rfl (fun hc10 => ?_) (fun hc10 => ?_)
  · replace hc10 := of_decide_eq_true hc10
    refine wp_seq' ?_
    refine wp_region' ?_
    refine ops_ro' rfl (ro_build rfl (bld_struct (cs := Rc.zero.cs none 0) st56 rfl)) rfl ?_
    refine ops_ro' rfl (ro_assign rfl) rfl ?_
    refine ops_eff0 rfl (eff_storeA 0 ag56 rfl rfl rfl rfl rfl (Nat.le_of_ble_eq_true rfl) (warm_zero _)) rfl ?_
    rintro _ _ rfl
    refine ops_ro' rfl (ro_assign rfl) rfl ?_
    refine ops_nil ?_
    refine Then_normal ?_
    refine wp_ret' ?_
    refine Then_ret ?_
    refine' doneS_ret (resv3 rfl (rv_tmp rfl) (rv_cellA ag56 rfl (by first | exact RdN.of_pick 0 rfl rdn_all | exact RdN.of_pick 1 rfl rdn_all | exact RdN.of_pick 2 rfl rdn_all | exact RdN.of_pick 3 rfl rdn_all | exact RdN.of_pick 4 rfl rdn_all | exact RdN.of_pick 5 rfl rdn_all | exact RdN.of_pick 6 rfl rdn_all | exact RdN.of_pick 7 rfl rdn_all | exact RdN.of_pick 8 rfl rdn_all) rfl) (rv_tmp rfl)) ?_ ?_
    rotate_left 1
    have HX : decQ b = (0, Rc.zero, 10) := by unfold decQ; rw [if_pos (by omega)]
    rw [HX]
    exact ⟨_, ⟨none, 0, rfl, rfl⟩, rfl⟩
    exact (SubH.rown (SubH.cons 1 rfl (SubH.nil _)))
  · replace hc10 := of_decide_eq_false hc10
    refine wp_skip' ?_
    refine Then_normal ?_
    refine wp_seq' ?_
    refine wp_region' ?_
    refine ops_ro' rfl (ro_move rfl) rfl ?_
    refine ops_ro' rfl (ro_build rfl (bld_struct (cs := [.slice p b.length c, .int .i64 0, .bool false, .int .i64 0, .int .i64 0]) st134 rfl)) rfl ?_
    refine ops_eff' rfl (eff_box rfl) rfl ?_
    rintro _ _ ⟨b14, rfl, rfl⟩
    refine ops_ro' rfl (ro_assign rfl) rfl ?_
    refine ops_nil ?_
    refine Then_normal ?_
    refine wp_seq' ?_
    obtain hi : Rin V p c b := ⟨hV, hc, hb⟩
    refine wp_sub' (L := [rq b14 (.slice p b.length c) (R.new b), own b3 (.cells (Rc.zero.cs none 0).toArray 56 (0, 0)), V]) (by show SubH _ _; rw [rq_no (show (R.new b).why = 0 from rfl)]; exact (by repeat (first | exact SubH.nil _ | refine SubH.cons 0 rfl ?_ | refine SubH.cons 1 rfl ?_ | refine SubH.cons 2 rfl ?_ | refine SubH.cons 3 rfl ?_ | refine SubH.cons 4 rfl ?_ | refine SubH.cons 5 rfl ?_ | refine SubH.cons 6 rfl ?_ | refine SubH.cons 7 rfl ?_ | refine SubH.cons 8 rfl ?_ | refine SubH.cons 9 rfl ?_ | refine SubH.cons 10 rfl ?_ | refine SubH.cons 11 rfl ?_ | refine SubH.cons 12 rfl ?_ | refine SubH.cons 13 rfl ?_ | refine SubH.rown ?_))) ?_
    refine wp_region' ?_
    refine ops_ro' rfl (ro_move rfl) rfl ?_
    refine ops_eff' rfl (eff_callM (Pre := [_]) Try.call83 rfl rfl (by repeat (first | exact Split.nil _ | apply Split.cons 0 rfl | apply Split.cons 1 rfl | apply Split.cons 2 rfl | apply Split.cons 3 rfl | apply Split.cons 4 rfl | apply Split.cons 5 rfl | apply Split.cons 6 rfl | apply Split.cons 7 rfl | apply Split.cons 8 rfl | apply Split.cons 9 rfl | apply Split.cons 10 rfl | apply Split.cons 11 rfl)) (qByte b14 p c b (R.new b) (by first | exact ⟨Vw.pick 0 rfl hi.vw, hi.cap, hi.len⟩ | exact ⟨Vw.pick 1 rfl hi.vw, hi.cap, hi.len⟩ | exact ⟨Vw.pick 2 rfl hi.vw, hi.cap, hi.len⟩ | exact ⟨Vw.pick 3 rfl hi.vw, hi.cap, hi.len⟩ | exact ⟨Vw.pick 4 rfl hi.vw, hi.cap, hi.len⟩ | exact ⟨Vw.pick 5 rfl hi.vw, hi.cap, hi.len⟩ | exact ⟨Vw.pick 6 rfl hi.vw, hi.cap, hi.len⟩ | exact ⟨Vw.pick 7 rfl hi.vw, hi.cap, hi.len⟩) (R.on_new _))) rfl ?_
    rintro _ H' ⟨_, ⟨rfl, rfl⟩, hH⟩
    simp only [List.cons_append, List.nil_append, List.eraseIdx_cons_zero, List.eraseIdx_cons_succ, List.set_cons_zero, List.set_cons_succ] at hH
    subst hH
    have hl1 := get_lt (R.new b) 1
    simp only [Nat.reducePow] at hl1
    have o01 := R.on_get (R.on_new b) 1
    generalize e1 : (R.new b).get 1 = t1 at *
    obtain ⟨r1, k⟩ := t1
    simp only at *
    refine ops_ro' rfl (ro_build rfl (bld_struct (cs := Rc.cs { Rc.zero with k := (k : Int) } none 0) st56 rfl)) rfl ?_
    refine ops_eff' rfl (eff_alloc z56) rfl ?_
    rintro _ _ ⟨b6, rfl, rfl⟩
    refine ops_eff0 rfl (eff_storeA 0 ag56 rfl rfl rfl rfl rfl (Nat.le_of_ble_eq_true rfl) (warm_zero _)) rfl ?_
    rintro _ _ rfl
    refine ops_nil ?_
    refine Then_normal ?_
    refine wp_seq' ?_
    refine wp_region' ?_
    refine ops_ro' rfl (ro_move rfl) rfl ?_
    refine ops_eff' rfl (eff_callM (Pre := [_]) Try.call99 rfl rfl (by repeat (first | exact Split.nil _ | apply Split.cons 0 rfl | apply Split.cons 1 rfl | apply Split.cons 2 rfl | apply Split.cons 3 rfl | apply Split.cons 4 rfl | apply Split.cons 5 rfl | apply Split.cons 6 rfl | apply Split.cons 7 rfl | apply Split.cons 8 rfl | apply Split.cons 9 rfl | apply Split.cons 10 rfl | apply Split.cons 11 rfl)) (qU32 b14 p c b r1 (by first | exact ⟨Vw.pick 0 rfl hi.vw, hi.cap, hi.len⟩ | exact ⟨Vw.pick 1 rfl hi.vw, hi.cap, hi.len⟩ | exact ⟨Vw.pick 2 rfl hi.vw, hi.cap, hi.len⟩ | exact ⟨Vw.pick 3 rfl hi.vw, hi.cap, hi.len⟩ | exact ⟨Vw.pick 4 rfl hi.vw, hi.cap, hi.len⟩ | exact ⟨Vw.pick 5 rfl hi.vw, hi.cap, hi.len⟩ | exact ⟨Vw.pick 6 rfl hi.vw, hi.cap, hi.len⟩ | exact ⟨Vw.pick 7 rfl hi.vw, hi.cap, hi.len⟩) o01)) rfl ?_
    rintro _ H' ⟨_, ⟨rfl, rfl⟩, hH⟩
    simp only [List.cons_append, List.nil_append, List.eraseIdx_cons_zero, List.eraseIdx_cons_succ, List.set_cons_zero, List.set_cons_succ] at hH
    subst hH
    have o0 := R.on_get o01 4
    generalize e2 : r1.get 4 = t2 at *
    obtain ⟨rr0, id⟩ := t2
    simp only at *
    refine ops_ro' rfl (ro_assign rfl) rfl ?_
    refine ops_nil ?_
    refine Then_normal ?_
    refine wp_seq' ?_
    refine wp_seq' ?_
    refine wp_region' ?_
    refine ops_ro' rfl (ro_fieldAddr fa56_0 rfl) rfl ?_
    refine ops_ro' rfl (ro_load sc3 rfl (Rd.pick 1 rfl (Rd.own rfl))) rfl ?_
    refine ops_ro' rfl (ro_lss rfl rfl rfl) rfl ?_
    refine ops_split rfl rfl rfl (fun hg23 => ?_) (fun hg23 => ?_)
    · replace hg23 := of_decide_eq_true hg23
      dsimp only at hg23
      refine ops_skip' rfl rfl ?_
      refine ops_skip' rfl rfl ?_
      refine ops_skip' rfl rfl ?_
      refine ops_ro' rfl (ro_pick rfl rfl) rfl ?_
      refine ops_nil ?_
      refine Then_normal ?_
      refine wp_condT rfl ?_
      refine wp_seq' ?_
      refine wp_region' ?_
      refine ops_ro' rfl (ro_move rfl) rfl ?_
      refine ops_ro' rfl (ro_build rfl (bld_struct (cs := Rc.zero.cs none 0) st56 rfl)) rfl ?_
      refine ops_ro' rfl (ro_assign rfl) rfl ?_
      refine ops_eff0 rfl (eff_storeA 2 ag56 rfl rfl rfl rfl rfl (Nat.le_of_ble_eq_true rfl) (warm_zero _)) rfl ?_
      rintro _ _ rfl
      refine ops_ro' rfl (ro_assign rfl) rfl ?_
      refine ops_nil ?_
      refine Then_normal ?_
      refine wp_ret' ?_
      refine Then_ret ?_
      refine' doneS_ret (resv3 rfl (rv_tmp rfl) (rv_cellA ag56 rfl (by first | exact RdN.of_pick 0 rfl rdn_all | exact RdN.of_pick 1 rfl rdn_all | exact RdN.of_pick 2 rfl rdn_all | exact RdN.of_pick 3 rfl rdn_all | exact RdN.of_pick 4 rfl rdn_all | exact RdN.of_pick 5 rfl rdn_all | exact RdN.of_pick 6 rfl rdn_all | exact RdN.of_pick 7 rfl rdn_all | exact RdN.of_pick 8 rfl rdn_all) rfl) (rv_tmp rfl)) ?_ ?_
      rotate_left 1
      have HX : decQ b = (id, Rc.zero, 23) := by
        unfold decQ
        rw [if_neg (by omega), e1]
        simp only
        rw [e2]
        simp only
        rw [if_pos (ax_out (by omega))]
      rw [HX]
      exact ⟨_, ⟨none, 0, rfl, rfl⟩, rfl⟩
      exact (SubH.rown (SubH.cons 3 rfl (SubH.nil _)))
    · replace hg23 := of_decide_eq_false hg23
      dsimp only at hg23
      refine ops_ro' rfl (ro_fieldAddr fa56_0 rfl) rfl ?_
      refine ops_ro' rfl (ro_load sc3 rfl (Rd.pick 1 rfl (Rd.own rfl))) rfl ?_
      refine ops_ro' rfl (ro_gtr rfl rfl rfl) rfl ?_
      refine ops_ro' rfl (ro_pick rfl rfl) rfl ?_
      refine ops_nil ?_
      refine Then_normal ?_
      refine wp_cond' rfl (fun hc27 => ?_) (fun hc27 => ?_)
      · replace hc27 := of_decide_eq_true hc27
        dsimp only at hc27
        refine wp_seq' ?_
        refine wp_region' ?_
        refine ops_ro' rfl (ro_move rfl) rfl ?_
        refine ops_ro' rfl (ro_build rfl (bld_struct (cs := Rc.zero.cs none 0) st56 rfl)) rfl ?_
        refine ops_ro' rfl (ro_assign rfl) rfl ?_
        refine ops_eff0 rfl (eff_storeA 2 ag56 rfl rfl rfl rfl rfl (Nat.le_of_ble_eq_true rfl) (warm_zero _)) rfl ?_
        rintro _ _ rfl
        refine ops_ro' rfl (ro_assign rfl) rfl ?_
        refine ops_nil ?_
        refine Then_normal ?_
        refine wp_ret' ?_
        refine Then_ret ?_
        refine' doneS_ret (resv3 rfl (rv_tmp rfl) (rv_cellA ag56 rfl (by first | exact RdN.of_pick 0 rfl rdn_all | exact RdN.of_pick 1 rfl rdn_all | exact RdN.of_pick 2 rfl rdn_all | exact RdN.of_pick 3 rfl rdn_all | exact RdN.of_pick 4 rfl rdn_all | exact RdN.of_pick 5 rfl rdn_all | exact RdN.of_pick 6 rfl rdn_all | exact RdN.of_pick 7 rfl rdn_all | exact RdN.of_pick 8 rfl rdn_all) rfl) (rv_tmp rfl)) ?_ ?_
        rotate_left 1
        have HX : decQ b = (id, Rc.zero, 23) := by
          unfold decQ
          rw [if_neg (by omega), e1]
          simp only
          rw [e2]
          simp only
          rw [if_pos (ax_out (by omega))]
        rw [HX]
        exact ⟨_, ⟨none, 0, rfl, rfl⟩, rfl⟩
        exact (SubH.rown (SubH.cons 3 rfl (SubH.nil _)))
      · replace hc27 := of_decide_eq_false hc27
        dsimp only at hc27
        refine wp_skip' ?_
        refine Then_normal ?_
        refine wp_cutK 1036 (fun Δ LL => ∃ (rr8 : R) (cc8 : Rc) (dp : Option Addr) (dn : Nat), ((rr8, cc8) = decAll (axOf (k : Int)).1 (rr0, { Rc.zero with k := (k : Int) }) ∧ rr8.On b ∧ (axOf (k : Int)).2 = true) ∧ Δ = [] ∧ LL = [own b6 (.cells (cc8.cs dp dn).toArray 56 (0, 0)), rq b14 (.slice p b.length c) rr8, row 5 1 (.slice dp cc8.da.length dn) cc8.da.length (cel cc8.da), own b3 (.cells (Rc.zero.cs none 0).toArray 56 (0, 0)), V]) (Has.cons (k := 3) rfl (Has.cons (k := 5) rfl (Has.cons (k := 6) rfl (Has.cons (k := 7) rfl (Has.nil _))))) ?_ ?_
        · refine wp_seq' ?_
          have hax := ax_in (k := (k : Int)) (by omega)
          refine wp_region' ?_
          refine ops_ro' rfl (ro_fieldAddr fa56_0 rfl) rfl ?_
          refine ops_ro' rfl (ro_load sc3 rfl (Rd.pick 1 rfl (Rd.own rfl))) rfl ?_
          refine ops_nil ?_
          refine Then_normal ?_
          refine wp_block' ?_
          refine wp_seq' ?_
          refine wp_region' ?_
          refine ops_ro' rfl (ro_eql rfl rfl rfl) rfl ?_
          refine ops_ro' rfl (ro_assign rfl) rfl ?_
          refine ops_nil ?_
          refine Then_normal ?_
          refine wp_cond' rfl (fun hc35 => ?_) (fun hc35 => ?_)
          · replace hc35 := of_decide_eq_true hc35
            dsimp only at hc35
            refine wp_seq' ?_
            refine wp_region' ?_
            refine ops_ro' rfl (ro_move rfl) rfl ?_
            refine ops_eff' rfl (eff_callM (Pre := [_]) Try.call84 rfl rfl (by repeat (first | exact Split.nil _ | apply Split.cons 0 rfl | apply Split.cons 1 rfl | apply Split.cons 2 rfl | apply Split.cons 3 rfl | apply Split.cons 4 rfl | apply Split.cons 5 rfl | apply Split.cons 6 rfl | apply Split.cons 7 rfl | apply Split.cons 8 rfl | apply Split.cons 9 rfl | apply Split.cons 10 rfl | apply Split.cons 11 rfl)) (qText b14 p c b rr0 (by first | exact ⟨Vw.pick 0 rfl hi.vw, hi.cap, hi.len⟩ | exact ⟨Vw.pick 1 rfl hi.vw, hi.cap, hi.len⟩ | exact ⟨Vw.pick 2 rfl hi.vw, hi.cap, hi.len⟩ | exact ⟨Vw.pick 3 rfl hi.vw, hi.cap, hi.len⟩ | exact ⟨Vw.pick 4 rfl hi.vw, hi.cap, hi.len⟩ | exact ⟨Vw.pick 5 rfl hi.vw, hi.cap, hi.len⟩ | exact ⟨Vw.pick 6 rfl hi.vw, hi.cap, hi.len⟩ | exact ⟨Vw.pick 7 rfl hi.vw, hi.cap, hi.len⟩) o0 256 (by decide))) rfl ?_
            rintro _ H' ⟨_, ⟨rfl, rfl⟩, hH⟩
            simp only [List.cons_append, List.nil_append, List.eraseIdx_cons_zero, List.eraseIdx_cons_succ, List.set_cons_zero, List.set_cons_succ] at hH
            subst hH
            refine ops_ro' rfl (ro_fieldAddr fa56_1 rfl) rfl ?_
            refine ops_eff0 rfl (eff_store 1 sc9 rfl rfl rfl rfl (Nat.le_of_ble_eq_true rfl) (warm_zero _)) rfl ?_
            rintro _ _ rfl
            refine ops_nil ?_
            refine Then_normal ?_
            refine wp_seq' ?_
            refine wp_region' ?_
            refine ops_ro' rfl (ro_move rfl) rfl ?_
            refine ops_eff' rfl (eff_callM (Pre := [_]) Try.call99 rfl rfl (by repeat (first | exact Split.nil _ | apply Split.cons 0 rfl | apply Split.cons 1 rfl | apply Split.cons 2 rfl | apply Split.cons 3 rfl | apply Split.cons 4 rfl | apply Split.cons 5 rfl | apply Split.cons 6 rfl | apply Split.cons 7 rfl | apply Split.cons 8 rfl | apply Split.cons 9 rfl | apply Split.cons 10 rfl | apply Split.cons 11 rfl)) (qU32 b14 p c b (rr0.text 256).1 (by first | exact ⟨Vw.pick 0 rfl hi.vw, hi.cap, hi.len⟩ | exact ⟨Vw.pick 1 rfl hi.vw, hi.cap, hi.len⟩ | exact ⟨Vw.pick 2 rfl hi.vw, hi.cap, hi.len⟩ | exact ⟨Vw.pick 3 rfl hi.vw, hi.cap, hi.len⟩ | exact ⟨Vw.pick 4 rfl hi.vw, hi.cap, hi.len⟩ | exact ⟨Vw.pick 5 rfl hi.vw, hi.cap, hi.len⟩ | exact ⟨Vw.pick 6 rfl hi.vw, hi.cap, hi.len⟩ | exact ⟨Vw.pick 7 rfl hi.vw, hi.cap, hi.len⟩) (R.on_text o0 256))) rfl ?_
            rintro _ H' ⟨_, ⟨rfl, rfl⟩, hH⟩
            simp only [List.cons_append, List.nil_append, List.eraseIdx_cons_zero, List.eraseIdx_cons_succ, List.set_cons_zero, List.set_cons_succ] at hH
            subst hH
            refine ops_ro' rfl (ro_fieldAddr fa56_7 rfl) rfl ?_
            refine ops_eff0 rfl (eff_store 1 sc40 rfl rfl rfl rfl (Nat.le_of_ble_eq_true rfl) (warm_zero _)) rfl ?_
            rintro _ _ rfl
            refine ops_nil ?_
            refine Then_normal ?_
            refine wp_region' ?_
            refine ops_ro' rfl (ro_move rfl) rfl ?_
            refine ops_eff' rfl (eff_callM (Pre := [_]) Try.call100 rfl rfl (by repeat (first | exact Split.nil _ | apply Split.cons 0 rfl | apply Split.cons 1 rfl | apply Split.cons 2 rfl | apply Split.cons 3 rfl | apply Split.cons 4 rfl | apply Split.cons 5 rfl | apply Split.cons 6 rfl | apply Split.cons 7 rfl | apply Split.cons 8 rfl | apply Split.cons 9 rfl | apply Split.cons 10 rfl | apply Split.cons 11 rfl)) (q14get b14 p c b ((rr0.text 256).1.get 4).1 (by first | exact ⟨Vw.pick 0 rfl hi.vw, hi.cap, hi.len⟩ | exact ⟨Vw.pick 1 rfl hi.vw, hi.cap, hi.len⟩ | exact ⟨Vw.pick 2 rfl hi.vw, hi.cap, hi.len⟩ | exact ⟨Vw.pick 3 rfl hi.vw, hi.cap, hi.len⟩ | exact ⟨Vw.pick 4 rfl hi.vw, hi.cap, hi.len⟩ | exact ⟨Vw.pick 5 rfl hi.vw, hi.cap, hi.len⟩ | exact ⟨Vw.pick 6 rfl hi.vw, hi.cap, hi.len⟩ | exact ⟨Vw.pick 7 rfl hi.vw, hi.cap, hi.len⟩) (R.on_get (R.on_text o0 256) 4))) rfl ?_
            rintro _ H' ⟨_, ⟨rfl, rfl⟩, hH⟩
            simp only [List.cons_append, List.nil_append, List.eraseIdx_cons_zero, List.eraseIdx_cons_succ, List.set_cons_zero, List.set_cons_succ] at hH
            subst hH
            refine ops_ro' rfl (ro_fieldAddr fa56_8 rfl) rfl ?_
            refine ops_eff0 rfl (eff_storeA 1 ag54 rfl rfl rfl rfl rfl (Nat.le_of_ble_eq_true rfl) (warm_zero _)) rfl ?_
            rintro _ _ rfl
            refine ops_nil ?_
            refine InBlock_normal ?_
            refine Then_normal ?_
            refine over_cut (kept ⟨(((rr0.text 256).1.get 4).1.attrs).1, { Rc.zero with k := (k : Int), pa := (rr0.text 256).2, fl := ((rr0.text 256).1.get 4).2, at' := (((rr0.text 256).1.get 4).1.attrs).2 }, none, 0, ⟨by rw [(show axOf (k : Int) = (⟨true, false, false, false, false, false, true, true⟩, true) from by unfold axOf; rw [if_pos (by omega)])]; rfl, (on_attrs (R.on_get (R.on_text o0 256) 4)), hax⟩, rfl, rfl⟩ ?_ ?_ ?_)
            · exact (by repeat (first | exact Has.nil _ | refine Has.cons rfl ?_))
            · exact (by repeat (first | exact Has.nil _ | refine Has.cons rfl ?_))
            · exact (SubH.cons 1 rfl (SubH.cons 0 rfl (SubH.rown (SubH.cons 0 rfl (SubH.cons 0 rfl (SubH.nil _))))))
          · replace hc35 := of_decide_eq_false hc35
            dsimp only at hc35
            refine wp_seq' ?_
            refine wp_seq' ?_
            refine wp_region' ?_
            refine ops_ro' rfl (ro_eql rfl rfl rfl) rfl ?_
            refine ops_ro' rfl (ro_assign rfl) rfl ?_
            refine ops_nil ?_
            refine Then_normal ?_
            refine wp_cond' rfl (fun hc46 => ?_) (fun hc46 => ?_)
            · replace hc46 := of_decide_eq_true hc46
              dsimp only at hc46
              refine wp_skip' ?_
              refine Then_normal ?_
              refine wp_cond' rfl (fun hc46 => ?_) (fun hc46 => ?_)
              · replace hc46 := of_decide_eq_true hc46
                dsimp only at hc46
                refine wp_region' ?_
                refine ops_ro' rfl (ro_move rfl) rfl ?_
                refine ops_eff' rfl (eff_callM (Pre := [_]) Try.call84 rfl rfl (by repeat (first | exact Split.nil _ | apply Split.cons 0 rfl | apply Split.cons 1 rfl | apply Split.cons 2 rfl | apply Split.cons 3 rfl | apply Split.cons 4 rfl | apply Split.cons 5 rfl | apply Split.cons 6 rfl | apply Split.cons 7 rfl | apply Split.cons 8 rfl | apply Split.cons 9 rfl | apply Split.cons 10 rfl | apply Split.cons 11 rfl)) (qText b14 p c b rr0 (by first | exact ⟨Vw.pick 0 rfl hi.vw, hi.cap, hi.len⟩ | exact ⟨Vw.pick 1 rfl hi.vw, hi.cap, hi.len⟩ | exact ⟨Vw.pick 2 rfl hi.vw, hi.cap, hi.len⟩ | exact ⟨Vw.pick 3 rfl hi.vw, hi.cap, hi.len⟩ | exact ⟨Vw.pick 4 rfl hi.vw, hi.cap, hi.len⟩ | exact ⟨Vw.pick 5 rfl hi.vw, hi.cap, hi.len⟩ | exact ⟨Vw.pick 6 rfl hi.vw, hi.cap, hi.len⟩ | exact ⟨Vw.pick 7 rfl hi.vw, hi.cap, hi.len⟩) o0 256 (by decide))) rfl ?_
                rintro _ H' ⟨_, ⟨rfl, rfl⟩, hH⟩
                simp only [List.cons_append, List.nil_append, List.eraseIdx_cons_zero, List.eraseIdx_cons_succ, List.set_cons_zero, List.set_cons_succ] at hH
                subst hH
                refine ops_ro' rfl (ro_fieldAddr fa56_3 rfl) rfl ?_
                refine ops_eff0 rfl (eff_store 1 sc9 rfl rfl rfl rfl (Nat.le_of_ble_eq_true rfl) (warm_zero _)) rfl ?_
                rintro _ _ rfl
                refine ops_nil ?_
                refine InBlock_normal ?_
                refine Then_normal ?_
                refine over_cut (kept ⟨(rr0.text 256).1, { Rc.zero with k := (k : Int), ha := (rr0.text 256).2 }, none, 0, ⟨by rw [(show axOf (k : Int) = (⟨false, false, true, false, false, false, false, false⟩, true) from by unfold axOf; rw [if_neg (by omega)]; rw [if_pos (by omega)])]; rfl, (R.on_text o0 256), hax⟩, rfl, rfl⟩ ?_ ?_ ?_)
                · exact (by repeat (first | exact Has.nil _ | refine Has.cons rfl ?_))
                · exact (by repeat (first | exact Has.nil _ | refine Has.cons rfl ?_))
                · exact (SubH.cons 1 rfl (SubH.cons 0 rfl (SubH.rown (SubH.cons 0 rfl (SubH.cons 0 rfl (SubH.nil _))))))
              · replace hc46 := of_decide_eq_false hc46
                dsimp only at hc46
                exfalso; omega
            · replace hc46 := of_decide_eq_false hc46
              dsimp only at hc46
              refine wp_seq' ?_
              refine wp_region' ?_
              refine ops_ro' rfl (ro_eql rfl rfl rfl) rfl ?_
              refine ops_ro' rfl (ro_assign rfl) rfl ?_
              refine ops_nil ?_
              refine Then_normal ?_
              refine wp_cond' rfl (fun hc46 => ?_) (fun hc46 => ?_)
              · replace hc46 := of_decide_eq_true hc46
                dsimp only at hc46
                refine wp_skip' ?_
                refine Then_normal ?_
                refine wp_cond' rfl (fun hc46 => ?_) (fun hc46 => ?_)
                · replace hc46 := of_decide_eq_true hc46
                  dsimp only at hc46
                  refine wp_region' ?_
                  refine ops_ro' rfl (ro_move rfl) rfl ?_
                  refine ops_eff' rfl (eff_callM (Pre := [_]) Try.call84 rfl rfl (by repeat (first | exact Split.nil _ | apply Split.cons 0 rfl | apply Split.cons 1 rfl | apply Split.cons 2 rfl | apply Split.cons 3 rfl | apply Split.cons 4 rfl | apply Split.cons 5 rfl | apply Split.cons 6 rfl | apply Split.cons 7 rfl | apply Split.cons 8 rfl | apply Split.cons 9 rfl | apply Split.cons 10 rfl | apply Split.cons 11 rfl)) (qText b14 p c b rr0 (by first | exact ⟨Vw.pick 0 rfl hi.vw, hi.cap, hi.len⟩ | exact ⟨Vw.pick 1 rfl hi.vw, hi.cap, hi.len⟩ | exact ⟨Vw.pick 2 rfl hi.vw, hi.cap, hi.len⟩ | exact ⟨Vw.pick 3 rfl hi.vw, hi.cap, hi.len⟩ | exact ⟨Vw.pick 4 rfl hi.vw, hi.cap, hi.len⟩ | exact ⟨Vw.pick 5 rfl hi.vw, hi.cap, hi.len⟩ | exact ⟨Vw.pick 6 rfl hi.vw, hi.cap, hi.len⟩ | exact ⟨Vw.pick 7 rfl hi.vw, hi.cap, hi.len⟩) o0 256 (by decide))) rfl ?_
                  rintro _ H' ⟨_, ⟨rfl, rfl⟩, hH⟩
                  simp only [List.cons_append, List.nil_append, List.eraseIdx_cons_zero, List.eraseIdx_cons_succ, List.set_cons_zero, List.set_cons_succ] at hH
                  subst hH
                  refine ops_ro' rfl (ro_fieldAddr fa56_3 rfl) rfl ?_
                  refine ops_eff0 rfl (eff_store 1 sc9 rfl rfl rfl rfl (Nat.le_of_ble_eq_true rfl) (warm_zero _)) rfl ?_
                  rintro _ _ rfl
                  refine ops_nil ?_
                  refine InBlock_normal ?_
                  refine Then_normal ?_
                  refine over_cut (kept ⟨(rr0.text 256).1, { Rc.zero with k := (k : Int), ha := (rr0.text 256).2 }, none, 0, ⟨by rw [(show axOf (k : Int) = (⟨false, false, true, false, false, false, false, false⟩, true) from by unfold axOf; rw [if_neg (by omega)]; rw [if_pos (by omega)])]; rfl, (R.on_text o0 256), hax⟩, rfl, rfl⟩ ?_ ?_ ?_)
                  · exact (by repeat (first | exact Has.nil _ | refine Has.cons rfl ?_))
                  · exact (by repeat (first | exact Has.nil _ | refine Has.cons rfl ?_))
                  · exact (SubH.cons 1 rfl (SubH.cons 0 rfl (SubH.rown (SubH.cons 0 rfl (SubH.cons 0 rfl (SubH.nil _))))))
                · replace hc46 := of_decide_eq_false hc46
                  dsimp only at hc46
                  exfalso; omega
              · replace hc46 := of_decide_eq_false hc46
                dsimp only at hc46
                refine wp_region' ?_
                refine ops_ro' rfl (ro_eql rfl rfl rfl) rfl ?_
                refine ops_ro' rfl (ro_assign rfl) rfl ?_
                refine ops_nil ?_
                refine Then_normal ?_
                refine wp_cond' rfl (fun hc46 => ?_) (fun hc46 => ?_)
                · replace hc46 := of_decide_eq_true hc46
                  dsimp only at hc46
                  refine wp_region' ?_
                  refine ops_ro' rfl (ro_move rfl) rfl ?_
                  refine ops_eff' rfl (eff_callM (Pre := [_]) Try.call84 rfl rfl (by repeat (first | exact Split.nil _ | apply Split.cons 0 rfl | apply Split.cons 1 rfl | apply Split.cons 2 rfl | apply Split.cons 3 rfl | apply Split.cons 4 rfl | apply Split.cons 5 rfl | apply Split.cons 6 rfl | apply Split.cons 7 rfl | apply Split.cons 8 rfl | apply Split.cons 9 rfl | apply Split.cons 10 rfl | apply Split.cons 11 rfl)) (qText b14 p c b rr0 (by first | exact ⟨Vw.pick 0 rfl hi.vw, hi.cap, hi.len⟩ | exact ⟨Vw.pick 1 rfl hi.vw, hi.cap, hi.len⟩ | exact ⟨Vw.pick 2 rfl hi.vw, hi.cap, hi.len⟩ | exact ⟨Vw.pick 3 rfl hi.vw, hi.cap, hi.len⟩ | exact ⟨Vw.pick 4 rfl hi.vw, hi.cap, hi.len⟩ | exact ⟨Vw.pick 5 rfl hi.vw, hi.cap, hi.len⟩ | exact ⟨Vw.pick 6 rfl hi.vw, hi.cap, hi.len⟩ | exact ⟨Vw.pick 7 rfl hi.vw, hi.cap, hi.len⟩) o0 256 (by decide))) rfl ?_
                  rintro _ H' ⟨_, ⟨rfl, rfl⟩, hH⟩
                  simp only [List.cons_append, List.nil_append, List.eraseIdx_cons_zero, List.eraseIdx_cons_succ, List.set_cons_zero, List.set_cons_succ] at hH
                  subst hH
                  refine ops_ro' rfl (ro_fieldAddr fa56_3 rfl) rfl ?_
                  refine ops_eff0 rfl (eff_store 1 sc9 rfl rfl rfl rfl (Nat.le_of_ble_eq_true rfl) (warm_zero _)) rfl ?_
                  rintro _ _ rfl
                  refine ops_nil ?_
                  refine InBlock_normal ?_
                  refine Then_normal ?_
                  refine over_cut (kept ⟨(rr0.text 256).1, { Rc.zero with k := (k : Int), ha := (rr0.text 256).2 }, none, 0, ⟨by rw [(show axOf (k : Int) = (⟨false, false, true, false, false, false, false, false⟩, true) from by unfold axOf; rw [if_neg (by omega)]; rw [if_pos (by omega)])]; rfl, (R.on_text o0 256), hax⟩, rfl, rfl⟩ ?_ ?_ ?_)
                  · exact (by repeat (first | exact Has.nil _ | refine Has.cons rfl ?_))
                  · exact (by repeat (first | exact Has.nil _ | refine Has.cons rfl ?_))
                  · exact (SubH.cons 1 rfl (SubH.cons 0 rfl (SubH.rown (SubH.cons 0 rfl (SubH.cons 0 rfl (SubH.nil _))))))
                · replace hc46 := of_decide_eq_false hc46
                  dsimp only at hc46
                  refine wp_seq' ?_
                  refine wp_region' ?_
                  refine ops_ro' rfl (ro_eql rfl rfl rfl) rfl ?_
                  refine ops_ro' rfl (ro_assign rfl) rfl ?_
                  refine ops_nil ?_
                  refine Then_normal ?_
                  refine wp_cond' rfl (fun hc53 => ?_) (fun hc53 => ?_)
                  · replace hc53 := of_decide_eq_true hc53
                    dsimp only at hc53
                    refine wp_seq' ?_
                    refine wp_region' ?_
                    refine ops_ro' rfl (ro_move rfl) rfl ?_
                    refine ops_eff' rfl (eff_callM (Pre := [_]) Try.call84 rfl rfl (by repeat (first | exact Split.nil _ | apply Split.cons 0 rfl | apply Split.cons 1 rfl | apply Split.cons 2 rfl | apply Split.cons 3 rfl | apply Split.cons 4 rfl | apply Split.cons 5 rfl | apply Split.cons 6 rfl | apply Split.cons 7 rfl | apply Split.cons 8 rfl | apply Split.cons 9 rfl | apply Split.cons 10 rfl | apply Split.cons 11 rfl)) (qText b14 p c b rr0 (by first | exact ⟨Vw.pick 0 rfl hi.vw, hi.cap, hi.len⟩ | exact ⟨Vw.pick 1 rfl hi.vw, hi.cap, hi.len⟩ | exact ⟨Vw.pick 2 rfl hi.vw, hi.cap, hi.len⟩ | exact ⟨Vw.pick 3 rfl hi.vw, hi.cap, hi.len⟩ | exact ⟨Vw.pick 4 rfl hi.vw, hi.cap, hi.len⟩ | exact ⟨Vw.pick 5 rfl hi.vw, hi.cap, hi.len⟩ | exact ⟨Vw.pick 6 rfl hi.vw, hi.cap, hi.len⟩ | exact ⟨Vw.pick 7 rfl hi.vw, hi.cap, hi.len⟩) o0 256 (by decide))) rfl ?_
                    rintro _ H' ⟨_, ⟨rfl, rfl⟩, hH⟩
                    simp only [List.cons_append, List.nil_append, List.eraseIdx_cons_zero, List.eraseIdx_cons_succ, List.set_cons_zero, List.set_cons_succ] at hH
                    subst hH
                    refine ops_ro' rfl (ro_fieldAddr fa56_3 rfl) rfl ?_
                    refine ops_eff0 rfl (eff_store 1 sc9 rfl rfl rfl rfl (Nat.le_of_ble_eq_true rfl) (warm_zero _)) rfl ?_
                    rintro _ _ rfl
                    refine ops_nil ?_
                    refine Then_normal ?_
                    refine wp_seq' ?_
                    refine wp_region' ?_
                    refine ops_ro' rfl (ro_move rfl) rfl ?_
                    refine ops_eff' rfl (eff_callM (Pre := [_]) Try.call101 rfl rfl (by repeat (first | exact Split.nil _ | apply Split.cons 0 rfl | apply Split.cons 1 rfl | apply Split.cons 2 rfl | apply Split.cons 3 rfl | apply Split.cons 4 rfl | apply Split.cons 5 rfl | apply Split.cons 6 rfl | apply Split.cons 7 rfl | apply Split.cons 8 rfl | apply Split.cons 9 rfl | apply Split.cons 10 rfl | apply Split.cons 11 rfl)) (qU64 b14 p c b (rr0.text 256).1 (by first | exact ⟨Vw.pick 0 rfl hi.vw, hi.cap, hi.len⟩ | exact ⟨Vw.pick 1 rfl hi.vw, hi.cap, hi.len⟩ | exact ⟨Vw.pick 2 rfl hi.vw, hi.cap, hi.len⟩ | exact ⟨Vw.pick 3 rfl hi.vw, hi.cap, hi.len⟩ | exact ⟨Vw.pick 4 rfl hi.vw, hi.cap, hi.len⟩ | exact ⟨Vw.pick 5 rfl hi.vw, hi.cap, hi.len⟩ | exact ⟨Vw.pick 6 rfl hi.vw, hi.cap, hi.len⟩ | exact ⟨Vw.pick 7 rfl hi.vw, hi.cap, hi.len⟩) (R.on_text o0 256))) rfl ?_
                    rintro _ H' ⟨_, ⟨rfl, rfl⟩, hH⟩
                    simp only [List.cons_append, List.nil_append, List.eraseIdx_cons_zero, List.eraseIdx_cons_succ, List.set_cons_zero, List.set_cons_succ] at hH
                    subst hH
                    refine ops_ro' rfl (ro_fieldAddr fa56_4 rfl) rfl ?_
                    refine ops_eff0 rfl (eff_store 1 sc52 rfl rfl rfl rfl (Nat.le_of_ble_eq_true rfl) (warm_zero _)) rfl ?_
                    rintro _ _ rfl
                    refine ops_nil ?_
                    refine Then_normal ?_
                    refine wp_region' ?_
                    refine ops_ro' rfl (ro_move rfl) rfl ?_
                    refine ops_eff' rfl (eff_callM (Pre := [_]) Try.call99 rfl rfl (by repeat (first | exact Split.nil _ | apply Split.cons 0 rfl | apply Split.cons 1 rfl | apply Split.cons 2 rfl | apply Split.cons 3 rfl | apply Split.cons 4 rfl | apply Split.cons 5 rfl | apply Split.cons 6 rfl | apply Split.cons 7 rfl | apply Split.cons 8 rfl | apply Split.cons 9 rfl | apply Split.cons 10 rfl | apply Split.cons 11 rfl)) (qU32 b14 p c b ((rr0.text 256).1.get 8).1 (by first | exact ⟨Vw.pick 0 rfl hi.vw, hi.cap, hi.len⟩ | exact ⟨Vw.pick 1 rfl hi.vw, hi.cap, hi.len⟩ | exact ⟨Vw.pick 2 rfl hi.vw, hi.cap, hi.len⟩ | exact ⟨Vw.pick 3 rfl hi.vw, hi.cap, hi.len⟩ | exact ⟨Vw.pick 4 rfl hi.vw, hi.cap, hi.len⟩ | exact ⟨Vw.pick 5 rfl hi.vw, hi.cap, hi.len⟩ | exact ⟨Vw.pick 6 rfl hi.vw, hi.cap, hi.len⟩ | exact ⟨Vw.pick 7 rfl hi.vw, hi.cap, hi.len⟩) (R.on_get (R.on_text o0 256) 8))) rfl ?_
                    rintro _ H' ⟨_, ⟨rfl, rfl⟩, hH⟩
                    simp only [List.cons_append, List.nil_append, List.eraseIdx_cons_zero, List.eraseIdx_cons_succ, List.set_cons_zero, List.set_cons_succ] at hH
                    subst hH
                    refine ops_ro' rfl (ro_fieldAddr fa56_5 rfl) rfl ?_
                    refine ops_eff0 rfl (eff_store 1 sc40 rfl rfl rfl rfl (Nat.le_of_ble_eq_true rfl) (warm_zero _)) rfl ?_
                    rintro _ _ rfl
                    refine ops_nil ?_
                    refine InBlock_normal ?_
                    refine Then_normal ?_
                    refine over_cut (kept ⟨(((rr0.text 256).1.get 8).1.get 4).1, { Rc.zero with k := (k : Int), ha := (rr0.text 256).2, off := ((rr0.text 256).1.get 8).2, len := (((rr0.text 256).1.get 8).1.get 4).2 }, none, 0, ⟨by rw [(show axOf (k : Int) = (⟨false, false, true, true, true, false, false, false⟩, true) from by unfold axOf; rw [if_neg (by omega)]; rw [if_neg (by omega)]; rw [if_pos (by omega)])]; rfl, (R.on_get (R.on_get (R.on_text o0 256) 8) 4), hax⟩, rfl, rfl⟩ ?_ ?_ ?_)
                    · exact (by repeat (first | exact Has.nil _ | refine Has.cons rfl ?_))
                    · exact (by repeat (first | exact Has.nil _ | refine Has.cons rfl ?_))
                    · exact (SubH.cons 1 rfl (SubH.cons 0 rfl (SubH.rown (SubH.cons 0 rfl (SubH.cons 0 rfl (SubH.nil _))))))
                  · replace hc53 := of_decide_eq_false hc53
                    dsimp only at hc53
                    refine wp_seq' ?_
                    refine wp_region' ?_
                    refine ops_ro' rfl (ro_eql rfl rfl rfl) rfl ?_
                    refine ops_ro' rfl (ro_assign rfl) rfl ?_
                    refine ops_nil ?_
                    refine Then_normal ?_
                    refine wp_cond' rfl (fun hc64 => ?_) (fun hc64 => ?_)
                    · replace hc64 := of_decide_eq_true hc64
                      dsimp only at hc64
                      refine wp_seq' ?_
                      refine wp_region' ?_
                      refine ops_ro' rfl (ro_move rfl) rfl ?_
                      refine ops_eff' rfl (eff_callM (Pre := [_]) Try.call84 rfl rfl (by repeat (first | exact Split.nil _ | apply Split.cons 0 rfl | apply Split.cons 1 rfl | apply Split.cons 2 rfl | apply Split.cons 3 rfl | apply Split.cons 4 rfl | apply Split.cons 5 rfl | apply Split.cons 6 rfl | apply Split.cons 7 rfl | apply Split.cons 8 rfl | apply Split.cons 9 rfl | apply Split.cons 10 rfl | apply Split.cons 11 rfl)) (qText b14 p c b rr0 (by first | exact ⟨Vw.pick 0 rfl hi.vw, hi.cap, hi.len⟩ | exact ⟨Vw.pick 1 rfl hi.vw, hi.cap, hi.len⟩ | exact ⟨Vw.pick 2 rfl hi.vw, hi.cap, hi.len⟩ | exact ⟨Vw.pick 3 rfl hi.vw, hi.cap, hi.len⟩ | exact ⟨Vw.pick 4 rfl hi.vw, hi.cap, hi.len⟩ | exact ⟨Vw.pick 5 rfl hi.vw, hi.cap, hi.len⟩ | exact ⟨Vw.pick 6 rfl hi.vw, hi.cap, hi.len⟩ | exact ⟨Vw.pick 7 rfl hi.vw, hi.cap, hi.len⟩) o0 256 (by decide))) rfl ?_
                      rintro _ H' ⟨_, ⟨rfl, rfl⟩, hH⟩
                      simp only [List.cons_append, List.nil_append, List.eraseIdx_cons_zero, List.eraseIdx_cons_succ, List.set_cons_zero, List.set_cons_succ] at hH
                      subst hH
                      refine ops_ro' rfl (ro_fieldAddr fa56_3 rfl) rfl ?_
                      refine ops_eff0 rfl (eff_store 1 sc9 rfl rfl rfl rfl (Nat.le_of_ble_eq_true rfl) (warm_zero _)) rfl ?_
                      rintro _ _ rfl
                      refine ops_nil ?_
                      refine Then_normal ?_
                      refine wp_seq' ?_
                      refine wp_region' ?_
                      refine ops_ro' rfl (ro_move rfl) rfl ?_
                      refine ops_eff' rfl (eff_callM (Pre := [_]) Try.call101 rfl rfl (by repeat (first | exact Split.nil _ | apply Split.cons 0 rfl | apply Split.cons 1 rfl | apply Split.cons 2 rfl | apply Split.cons 3 rfl | apply Split.cons 4 rfl | apply Split.cons 5 rfl | apply Split.cons 6 rfl | apply Split.cons 7 rfl | apply Split.cons 8 rfl | apply Split.cons 9 rfl | apply Split.cons 10 rfl | apply Split.cons 11 rfl)) (qU64 b14 p c b (rr0.text 256).1 (by first | exact ⟨Vw.pick 0 rfl hi.vw, hi.cap, hi.len⟩ | exact ⟨Vw.pick 1 rfl hi.vw, hi.cap, hi.len⟩ | exact ⟨Vw.pick 2 rfl hi.vw, hi.cap, hi.len⟩ | exact ⟨Vw.pick 3 rfl hi.vw, hi.cap, hi.len⟩ | exact ⟨Vw.pick 4 rfl hi.vw, hi.cap, hi.len⟩ | exact ⟨Vw.pick 5 rfl hi.vw, hi.cap, hi.len⟩ | exact ⟨Vw.pick 6 rfl hi.vw, hi.cap, hi.len⟩ | exact ⟨Vw.pick 7 rfl hi.vw, hi.cap, hi.len⟩) (R.on_text o0 256))) rfl ?_
                      rintro _ H' ⟨_, ⟨rfl, rfl⟩, hH⟩
                      simp only [List.cons_append, List.nil_append, List.eraseIdx_cons_zero, List.eraseIdx_cons_succ, List.set_cons_zero, List.set_cons_succ] at hH
                      subst hH
                      refine ops_ro' rfl (ro_fieldAddr fa56_4 rfl) rfl ?_
                      refine ops_eff0 rfl (eff_store 1 sc52 rfl rfl rfl rfl (Nat.le_of_ble_eq_true rfl) (warm_zero _)) rfl ?_
                      rintro _ _ rfl
                      refine ops_nil ?_
                      refine Then_normal ?_
                      refine wp_region' ?_
                      refine ops_ro' rfl (ro_move rfl) rfl ?_
                      refine ops_eff' rfl (eff_callM (Pre := [_]) Try.call84 rfl rfl (by repeat (first | exact Split.nil _ | apply Split.cons 0 rfl | apply Split.cons 1 rfl | apply Split.cons 2 rfl | apply Split.cons 3 rfl | apply Split.cons 4 rfl | apply Split.cons 5 rfl | apply Split.cons 6 rfl | apply Split.cons 7 rfl | apply Split.cons 8 rfl | apply Split.cons 9 rfl | apply Split.cons 10 rfl | apply Split.cons 11 rfl)) (qText b14 p c b ((rr0.text 256).1.get 8).1 (by first | exact ⟨Vw.pick 0 rfl hi.vw, hi.cap, hi.len⟩ | exact ⟨Vw.pick 1 rfl hi.vw, hi.cap, hi.len⟩ | exact ⟨Vw.pick 2 rfl hi.vw, hi.cap, hi.len⟩ | exact ⟨Vw.pick 3 rfl hi.vw, hi.cap, hi.len⟩ | exact ⟨Vw.pick 4 rfl hi.vw, hi.cap, hi.len⟩ | exact ⟨Vw.pick 5 rfl hi.vw, hi.cap, hi.len⟩ | exact ⟨Vw.pick 6 rfl hi.vw, hi.cap, hi.len⟩ | exact ⟨Vw.pick 7 rfl hi.vw, hi.cap, hi.len⟩) (R.on_get (R.on_text o0 256) 8) 32768 (by decide))) rfl ?_
                      rintro _ H' ⟨_, ⟨rfl, rfl⟩, hH⟩
                      simp only [List.cons_append, List.nil_append, List.eraseIdx_cons_zero, List.eraseIdx_cons_succ, List.set_cons_zero, List.set_cons_succ] at hH
                      subst hH
                      refine ops_eff' rfl (eff_toBytesS Try.underlying9 Try.underlying32 Try.underlying5 rfl (by have h9 := R.text_len ((rr0.text 256).1.get 8).1 32768; simp only [maxLen]; omega)) rfl ?_
                      rintro _ _ ⟨b74, c74, rfl, rfl⟩
                      refine ops_ro' rfl (ro_fieldAddr fa56_6 rfl) rfl ?_
                      refine ops_eff0 rfl (eff_store 2 sc32 rfl rfl rfl rfl (Nat.le_of_ble_eq_true rfl) (warm_zero _)) rfl ?_
                      rintro _ _ rfl
                      refine ops_nil ?_
                      refine InBlock_normal ?_
                      refine Then_normal ?_
                      refine over_cut (kept ⟨(((rr0.text 256).1.get 8).1.text 32768).1, { Rc.zero with k := (k : Int), ha := (rr0.text 256).2, off := ((rr0.text 256).1.get 8).2, da := (((rr0.text 256).1.get 8).1.text 32768).2 }, some ⟨b74, 0, none⟩, c74, ⟨by rw [(show axOf (k : Int) = (⟨false, false, true, true, false, true, false, false⟩, true) from by unfold axOf; rw [if_neg (by omega)]; rw [if_neg (by omega)]; rw [if_neg (by omega)]; rw [if_pos (by omega)])]; rfl, (R.on_text (R.on_get (R.on_text o0 256) 8) 32768), hax⟩, rfl, rfl⟩ ?_ ?_ ?_)
                      · exact (by repeat (first | exact Has.nil _ | refine Has.cons rfl ?_))
                      · exact (by repeat (first | exact Has.nil _ | refine Has.cons rfl ?_))
                      · exact (SubH.cons 2 rfl (SubH.cons 1 rfl (SubH.cons 0 rfl (SubH.cons 0 rfl (SubH.cons 0 rfl (SubH.nil _))))))
                    · replace hc64 := of_decide_eq_false hc64
                      dsimp only at hc64
                      refine wp_seq' ?_
                      refine wp_seq' ?_
                      refine wp_region' ?_
                      refine ops_ro' rfl (ro_eql rfl rfl rfl) rfl ?_
                      refine ops_ro' rfl (ro_assign rfl) rfl ?_
                      refine ops_nil ?_
                      refine Then_normal ?_
                      refine wp_cond' rfl (fun hc76 => ?_) (fun hc76 => ?_)
                      · replace hc76 := of_decide_eq_true hc76
                        dsimp only at hc76
                        refine wp_skip' ?_
                        refine Then_normal ?_
                        refine wp_cond' rfl (fun hc76 => ?_) (fun hc76 => ?_)
                        · replace hc76 := of_decide_eq_true hc76
                          dsimp only at hc76
                          refine wp_seq' ?_
                          refine wp_region' ?_
                          refine ops_ro' rfl (ro_move rfl) rfl ?_
                          refine ops_eff' rfl (eff_callM (Pre := [_]) Try.call84 rfl rfl (by repeat (first | exact Split.nil _ | apply Split.cons 0 rfl | apply Split.cons 1 rfl | apply Split.cons 2 rfl | apply Split.cons 3 rfl | apply Split.cons 4 rfl | apply Split.cons 5 rfl | apply Split.cons 6 rfl | apply Split.cons 7 rfl | apply Split.cons 8 rfl | apply Split.cons 9 rfl | apply Split.cons 10 rfl | apply Split.cons 11 rfl)) (qText b14 p c b rr0 (by first | exact ⟨Vw.pick 0 rfl hi.vw, hi.cap, hi.len⟩ | exact ⟨Vw.pick 1 rfl hi.vw, hi.cap, hi.len⟩ | exact ⟨Vw.pick 2 rfl hi.vw, hi.cap, hi.len⟩ | exact ⟨Vw.pick 3 rfl hi.vw, hi.cap, hi.len⟩ | exact ⟨Vw.pick 4 rfl hi.vw, hi.cap, hi.len⟩ | exact ⟨Vw.pick 5 rfl hi.vw, hi.cap, hi.len⟩ | exact ⟨Vw.pick 6 rfl hi.vw, hi.cap, hi.len⟩ | exact ⟨Vw.pick 7 rfl hi.vw, hi.cap, hi.len⟩) o0 256 (by decide))) rfl ?_
                          rintro _ H' ⟨_, ⟨rfl, rfl⟩, hH⟩
                          simp only [List.cons_append, List.nil_append, List.eraseIdx_cons_zero, List.eraseIdx_cons_succ, List.set_cons_zero, List.set_cons_succ] at hH
                          subst hH
                          refine ops_ro' rfl (ro_fieldAddr fa56_1 rfl) rfl ?_
                          refine ops_eff0 rfl (eff_store 1 sc9 rfl rfl rfl rfl (Nat.le_of_ble_eq_true rfl) (warm_zero _)) rfl ?_
                          rintro _ _ rfl
                          refine ops_nil ?_
                          refine Then_normal ?_
                          refine wp_region' ?_
                          refine ops_ro' rfl (ro_move rfl) rfl ?_
                          refine ops_eff' rfl (eff_callM (Pre := [_]) Try.call100 rfl rfl (by repeat (first | exact Split.nil _ | apply Split.cons 0 rfl | apply Split.cons 1 rfl | apply Split.cons 2 rfl | apply Split.cons 3 rfl | apply Split.cons 4 rfl | apply Split.cons 5 rfl | apply Split.cons 6 rfl | apply Split.cons 7 rfl | apply Split.cons 8 rfl | apply Split.cons 9 rfl | apply Split.cons 10 rfl | apply Split.cons 11 rfl)) (q14get b14 p c b (rr0.text 256).1 (by first | exact ⟨Vw.pick 0 rfl hi.vw, hi.cap, hi.len⟩ | exact ⟨Vw.pick 1 rfl hi.vw, hi.cap, hi.len⟩ | exact ⟨Vw.pick 2 rfl hi.vw, hi.cap, hi.len⟩ | exact ⟨Vw.pick 3 rfl hi.vw, hi.cap, hi.len⟩ | exact ⟨Vw.pick 4 rfl hi.vw, hi.cap, hi.len⟩ | exact ⟨Vw.pick 5 rfl hi.vw, hi.cap, hi.len⟩ | exact ⟨Vw.pick 6 rfl hi.vw, hi.cap, hi.len⟩ | exact ⟨Vw.pick 7 rfl hi.vw, hi.cap, hi.len⟩) (R.on_text o0 256))) rfl ?_
                          rintro _ H' ⟨_, ⟨rfl, rfl⟩, hH⟩
                          simp only [List.cons_append, List.nil_append, List.eraseIdx_cons_zero, List.eraseIdx_cons_succ, List.set_cons_zero, List.set_cons_succ] at hH
                          subst hH
                          refine ops_ro' rfl (ro_fieldAddr fa56_8 rfl) rfl ?_
                          refine ops_eff0 rfl (eff_storeA 1 ag54 rfl rfl rfl rfl rfl (Nat.le_of_ble_eq_true rfl) (warm_zero _)) rfl ?_
                          rintro _ _ rfl
                          refine ops_nil ?_
                          refine InBlock_normal ?_
                          refine Then_normal ?_
                          refine over_cut (kept ⟨((rr0.text 256).1.attrs).1, { Rc.zero with k := (k : Int), pa := (rr0.text 256).2, at' := ((rr0.text 256).1.attrs).2 }, none, 0, ⟨by rw [(show axOf (k : Int) = (⟨true, false, false, false, false, false, false, true⟩, true) from by unfold axOf; rw [if_neg (by omega)]; rw [if_neg (by omega)]; rw [if_neg (by omega)]; rw [if_neg (by omega)]; rw [if_neg (by omega)]; rw [if_pos (by omega)])]; rfl, (on_attrs (R.on_text o0 256)), hax⟩, rfl, rfl⟩ ?_ ?_ ?_)
                          · exact (by repeat (first | exact Has.nil _ | refine Has.cons rfl ?_))
                          · exact (by repeat (first | exact Has.nil _ | refine Has.cons rfl ?_))
                          · exact (SubH.cons 1 rfl (SubH.cons 0 rfl (SubH.rown (SubH.cons 0 rfl (SubH.cons 0 rfl (SubH.nil _))))))
                        · replace hc76 := of_decide_eq_false hc76
                          dsimp only at hc76
                          exfalso; omega
                      · replace hc76 := of_decide_eq_false hc76
                        dsimp only at hc76
                        refine wp_region' ?_
                        refine ops_ro' rfl (ro_eql rfl rfl rfl) rfl ?_
                        refine ops_ro' rfl (ro_assign rfl) rfl ?_
                        refine ops_nil ?_
                        refine Then_normal ?_
                        refine wp_cond' rfl (fun hc76 => ?_) (fun hc76 => ?_)
                        · replace hc76 := of_decide_eq_true hc76
                          dsimp only at hc76
                          refine wp_seq' ?_
                          refine wp_region' ?_
                          refine ops_ro' rfl (ro_move rfl) rfl ?_
                          refine ops_eff' rfl (eff_callM (Pre := [_]) Try.call84 rfl rfl (by repeat (first | exact Split.nil _ | apply Split.cons 0 rfl | apply Split.cons 1 rfl | apply Split.cons 2 rfl | apply Split.cons 3 rfl | apply Split.cons 4 rfl | apply Split.cons 5 rfl | apply Split.cons 6 rfl | apply Split.cons 7 rfl | apply Split.cons 8 rfl | apply Split.cons 9 rfl | apply Split.cons 10 rfl | apply Split.cons 11 rfl)) (qText b14 p c b rr0 (by first | exact ⟨Vw.pick 0 rfl hi.vw, hi.cap, hi.len⟩ | exact ⟨Vw.pick 1 rfl hi.vw, hi.cap, hi.len⟩ | exact ⟨Vw.pick 2 rfl hi.vw, hi.cap, hi.len⟩ | exact ⟨Vw.pick 3 rfl hi.vw, hi.cap, hi.len⟩ | exact ⟨Vw.pick 4 rfl hi.vw, hi.cap, hi.len⟩ | exact ⟨Vw.pick 5 rfl hi.vw, hi.cap, hi.len⟩ | exact ⟨Vw.pick 6 rfl hi.vw, hi.cap, hi.len⟩ | exact ⟨Vw.pick 7 rfl hi.vw, hi.cap, hi.len⟩) o0 256 (by decide))) rfl ?_
                          rintro _ H' ⟨_, ⟨rfl, rfl⟩, hH⟩
                          simp only [List.cons_append, List.nil_append, List.eraseIdx_cons_zero, List.eraseIdx_cons_succ, List.set_cons_zero, List.set_cons_succ] at hH
                          subst hH
                          refine ops_ro' rfl (ro_fieldAddr fa56_1 rfl) rfl ?_
                          refine ops_eff0 rfl (eff_store 1 sc9 rfl rfl rfl rfl (Nat.le_of_ble_eq_true rfl) (warm_zero _)) rfl ?_
                          rintro _ _ rfl
                          refine ops_nil ?_
                          refine Then_normal ?_
                          refine wp_region' ?_
                          refine ops_ro' rfl (ro_move rfl) rfl ?_
                          refine ops_eff' rfl (eff_callM (Pre := [_]) Try.call100 rfl rfl (by repeat (first | exact Split.nil _ | apply Split.cons 0 rfl | apply Split.cons 1 rfl | apply Split.cons 2 rfl | apply Split.cons 3 rfl | apply Split.cons 4 rfl | apply Split.cons 5 rfl | apply Split.cons 6 rfl | apply Split.cons 7 rfl | apply Split.cons 8 rfl | apply Split.cons 9 rfl | apply Split.cons 10 rfl | apply Split.cons 11 rfl)) (q14get b14 p c b (rr0.text 256).1 (by first | exact ⟨Vw.pick 0 rfl hi.vw, hi.cap, hi.len⟩ | exact ⟨Vw.pick 1 rfl hi.vw, hi.cap, hi.len⟩ | exact ⟨Vw.pick 2 rfl hi.vw, hi.cap, hi.len⟩ | exact ⟨Vw.pick 3 rfl hi.vw, hi.cap, hi.len⟩ | exact ⟨Vw.pick 4 rfl hi.vw, hi.cap, hi.len⟩ | exact ⟨Vw.pick 5 rfl hi.vw, hi.cap, hi.len⟩ | exact ⟨Vw.pick 6 rfl hi.vw, hi.cap, hi.len⟩ | exact ⟨Vw.pick 7 rfl hi.vw, hi.cap, hi.len⟩) (R.on_text o0 256))) rfl ?_
                          rintro _ H' ⟨_, ⟨rfl, rfl⟩, hH⟩
                          simp only [List.cons_append, List.nil_append, List.eraseIdx_cons_zero, List.eraseIdx_cons_succ, List.set_cons_zero, List.set_cons_succ] at hH
                          subst hH
                          refine ops_ro' rfl (ro_fieldAddr fa56_8 rfl) rfl ?_
                          refine ops_eff0 rfl (eff_storeA 1 ag54 rfl rfl rfl rfl rfl (Nat.le_of_ble_eq_true rfl) (warm_zero _)) rfl ?_
                          rintro _ _ rfl
                          refine ops_nil ?_
                          refine InBlock_normal ?_
                          refine Then_normal ?_
                          refine over_cut (kept ⟨((rr0.text 256).1.attrs).1, { Rc.zero with k := (k : Int), pa := (rr0.text 256).2, at' := ((rr0.text 256).1.attrs).2 }, none, 0, ⟨by rw [(show axOf (k : Int) = (⟨true, false, false, false, false, false, false, true⟩, true) from by unfold axOf; rw [if_neg (by omega)]; rw [if_neg (by omega)]; rw [if_neg (by omega)]; rw [if_neg (by omega)]; rw [if_neg (by omega)]; rw [if_pos (by omega)])]; rfl, (on_attrs (R.on_text o0 256)), hax⟩, rfl, rfl⟩ ?_ ?_ ?_)
                          · exact (by repeat (first | exact Has.nil _ | refine Has.cons rfl ?_))
                          · exact (by repeat (first | exact Has.nil _ | refine Has.cons rfl ?_))
                          · exact (SubH.cons 1 rfl (SubH.cons 0 rfl (SubH.rown (SubH.cons 0 rfl (SubH.cons 0 rfl (SubH.nil _))))))
                        · replace hc76 := of_decide_eq_false hc76
                          dsimp only at hc76
                          refine wp_seq' ?_
                          refine wp_region' ?_
                          refine ops_ro' rfl (ro_eql rfl rfl rfl) rfl ?_
                          refine ops_ro' rfl (ro_assign rfl) rfl ?_
                          refine ops_nil ?_
                          refine Then_normal ?_
                          refine wp_cond' rfl (fun hc85 => ?_) (fun hc85 => ?_)
                          · replace hc85 := of_decide_eq_true hc85
                            dsimp only at hc85
                            refine wp_seq' ?_
                            refine wp_region' ?_
                            refine ops_ro' rfl (ro_move rfl) rfl ?_
                            refine ops_eff' rfl (eff_callM (Pre := [_]) Try.call84 rfl rfl (by repeat (first | exact Split.nil _ | apply Split.cons 0 rfl | apply Split.cons 1 rfl | apply Split.cons 2 rfl | apply Split.cons 3 rfl | apply Split.cons 4 rfl | apply Split.cons 5 rfl | apply Split.cons 6 rfl | apply Split.cons 7 rfl | apply Split.cons 8 rfl | apply Split.cons 9 rfl | apply Split.cons 10 rfl | apply Split.cons 11 rfl)) (qText b14 p c b rr0 (by first | exact ⟨Vw.pick 0 rfl hi.vw, hi.cap, hi.len⟩ | exact ⟨Vw.pick 1 rfl hi.vw, hi.cap, hi.len⟩ | exact ⟨Vw.pick 2 rfl hi.vw, hi.cap, hi.len⟩ | exact ⟨Vw.pick 3 rfl hi.vw, hi.cap, hi.len⟩ | exact ⟨Vw.pick 4 rfl hi.vw, hi.cap, hi.len⟩ | exact ⟨Vw.pick 5 rfl hi.vw, hi.cap, hi.len⟩ | exact ⟨Vw.pick 6 rfl hi.vw, hi.cap, hi.len⟩ | exact ⟨Vw.pick 7 rfl hi.vw, hi.cap, hi.len⟩) o0 256 (by decide))) rfl ?_
                            rintro _ H' ⟨_, ⟨rfl, rfl⟩, hH⟩
                            simp only [List.cons_append, List.nil_append, List.eraseIdx_cons_zero, List.eraseIdx_cons_succ, List.set_cons_zero, List.set_cons_succ] at hH
                            subst hH
                            refine ops_ro' rfl (ro_fieldAddr fa56_3 rfl) rfl ?_
                            refine ops_eff0 rfl (eff_store 1 sc9 rfl rfl rfl rfl (Nat.le_of_ble_eq_true rfl) (warm_zero _)) rfl ?_
                            rintro _ _ rfl
                            refine ops_nil ?_
                            refine Then_normal ?_
                            refine wp_region' ?_
                            refine ops_ro' rfl (ro_move rfl) rfl ?_
                            refine ops_eff' rfl (eff_callM (Pre := [_]) Try.call100 rfl rfl (by repeat (first | exact Split.nil _ | apply Split.cons 0 rfl | apply Split.cons 1 rfl | apply Split.cons 2 rfl | apply Split.cons 3 rfl | apply Split.cons 4 rfl | apply Split.cons 5 rfl | apply Split.cons 6 rfl | apply Split.cons 7 rfl | apply Split.cons 8 rfl | apply Split.cons 9 rfl | apply Split.cons 10 rfl | apply Split.cons 11 rfl)) (q14get b14 p c b (rr0.text 256).1 (by first | exact ⟨Vw.pick 0 rfl hi.vw, hi.cap, hi.len⟩ | exact ⟨Vw.pick 1 rfl hi.vw, hi.cap, hi.len⟩ | exact ⟨Vw.pick 2 rfl hi.vw, hi.cap, hi.len⟩ | exact ⟨Vw.pick 3 rfl hi.vw, hi.cap, hi.len⟩ | exact ⟨Vw.pick 4 rfl hi.vw, hi.cap, hi.len⟩ | exact ⟨Vw.pick 5 rfl hi.vw, hi.cap, hi.len⟩ | exact ⟨Vw.pick 6 rfl hi.vw, hi.cap, hi.len⟩ | exact ⟨Vw.pick 7 rfl hi.vw, hi.cap, hi.len⟩) (R.on_text o0 256))) rfl ?_
                            rintro _ H' ⟨_, ⟨rfl, rfl⟩, hH⟩
                            simp only [List.cons_append, List.nil_append, List.eraseIdx_cons_zero, List.eraseIdx_cons_succ, List.set_cons_zero, List.set_cons_succ] at hH
                            subst hH
                            refine ops_ro' rfl (ro_fieldAddr fa56_8 rfl) rfl ?_
                            refine ops_eff0 rfl (eff_storeA 1 ag54 rfl rfl rfl rfl rfl (Nat.le_of_ble_eq_true rfl) (warm_zero _)) rfl ?_
                            rintro _ _ rfl
                            refine ops_nil ?_
                            refine InBlock_normal ?_
                            refine Then_normal ?_
                            refine over_cut (kept ⟨((rr0.text 256).1.attrs).1, { Rc.zero with k := (k : Int), ha := (rr0.text 256).2, at' := ((rr0.text 256).1.attrs).2 }, none, 0, ⟨by rw [(show axOf (k : Int) = (⟨false, false, true, false, false, false, false, true⟩, true) from by unfold axOf; rw [if_neg (by omega)]; rw [if_neg (by omega)]; rw [if_neg (by omega)]; rw [if_neg (by omega)]; rw [if_neg (by omega)]; rw [if_neg (by omega)]; rw [if_pos (by omega)])]; rfl, (on_attrs (R.on_text o0 256)), hax⟩, rfl, rfl⟩ ?_ ?_ ?_)
                            · exact (by repeat (first | exact Has.nil _ | refine Has.cons rfl ?_))
                            · exact (by repeat (first | exact Has.nil _ | refine Has.cons rfl ?_))
                            · exact (SubH.cons 1 rfl (SubH.cons 0 rfl (SubH.rown (SubH.cons 0 rfl (SubH.cons 0 rfl (SubH.nil _))))))
                          · replace hc85 := of_decide_eq_false hc85
                            dsimp only at hc85
                            refine wp_seq' ?_
                            refine wp_region' ?_
                            refine ops_ro' rfl (ro_eql rfl rfl rfl) rfl ?_
                            refine ops_ro' rfl (ro_assign rfl) rfl ?_
                            refine ops_nil ?_
                            refine Then_normal ?_
                            refine wp_cond' rfl (fun hc93 => ?_) (fun hc93 => ?_)
                            · replace hc93 := of_decide_eq_true hc93
                              dsimp only at hc93
                              refine wp_seq' ?_
                              refine wp_region' ?_
                              refine ops_ro' rfl (ro_move rfl) rfl ?_
                              refine ops_eff' rfl (eff_callM (Pre := [_]) Try.call84 rfl rfl (by repeat (first | exact Split.nil _ | apply Split.cons 0 rfl | apply Split.cons 1 rfl | apply Split.cons 2 rfl | apply Split.cons 3 rfl | apply Split.cons 4 rfl | apply Split.cons 5 rfl | apply Split.cons 6 rfl | apply Split.cons 7 rfl | apply Split.cons 8 rfl | apply Split.cons 9 rfl | apply Split.cons 10 rfl | apply Split.cons 11 rfl)) (qText b14 p c b rr0 (by first | exact ⟨Vw.pick 0 rfl hi.vw, hi.cap, hi.len⟩ | exact ⟨Vw.pick 1 rfl hi.vw, hi.cap, hi.len⟩ | exact ⟨Vw.pick 2 rfl hi.vw, hi.cap, hi.len⟩ | exact ⟨Vw.pick 3 rfl hi.vw, hi.cap, hi.len⟩ | exact ⟨Vw.pick 4 rfl hi.vw, hi.cap, hi.len⟩ | exact ⟨Vw.pick 5 rfl hi.vw, hi.cap, hi.len⟩ | exact ⟨Vw.pick 6 rfl hi.vw, hi.cap, hi.len⟩ | exact ⟨Vw.pick 7 rfl hi.vw, hi.cap, hi.len⟩) o0 256 (by decide))) rfl ?_
                              rintro _ H' ⟨_, ⟨rfl, rfl⟩, hH⟩
                              simp only [List.cons_append, List.nil_append, List.eraseIdx_cons_zero, List.eraseIdx_cons_succ, List.set_cons_zero, List.set_cons_succ] at hH
                              subst hH
                              refine ops_ro' rfl (ro_fieldAddr fa56_1 rfl) rfl ?_
                              refine ops_eff0 rfl (eff_store 1 sc9 rfl rfl rfl rfl (Nat.le_of_ble_eq_true rfl) (warm_zero _)) rfl ?_
                              rintro _ _ rfl
                              refine ops_nil ?_
                              refine Then_normal ?_
                              refine wp_region' ?_
                              refine ops_ro' rfl (ro_move rfl) rfl ?_
                              refine ops_eff' rfl (eff_callM (Pre := [_]) Try.call84 rfl rfl (by repeat (first | exact Split.nil _ | apply Split.cons 0 rfl | apply Split.cons 1 rfl | apply Split.cons 2 rfl | apply Split.cons 3 rfl | apply Split.cons 4 rfl | apply Split.cons 5 rfl | apply Split.cons 6 rfl | apply Split.cons 7 rfl | apply Split.cons 8 rfl | apply Split.cons 9 rfl | apply Split.cons 10 rfl | apply Split.cons 11 rfl)) (qText b14 p c b (rr0.text 256).1 (by first | exact ⟨Vw.pick 0 rfl hi.vw, hi.cap, hi.len⟩ | exact ⟨Vw.pick 1 rfl hi.vw, hi.cap, hi.len⟩ | exact ⟨Vw.pick 2 rfl hi.vw, hi.cap, hi.len⟩ | exact ⟨Vw.pick 3 rfl hi.vw, hi.cap, hi.len⟩ | exact ⟨Vw.pick 4 rfl hi.vw, hi.cap, hi.len⟩ | exact ⟨Vw.pick 5 rfl hi.vw, hi.cap, hi.len⟩ | exact ⟨Vw.pick 6 rfl hi.vw, hi.cap, hi.len⟩ | exact ⟨Vw.pick 7 rfl hi.vw, hi.cap, hi.len⟩) (R.on_text o0 256) 256 (by decide))) rfl ?_
                              rintro _ H' ⟨_, ⟨rfl, rfl⟩, hH⟩
                              simp only [List.cons_append, List.nil_append, List.eraseIdx_cons_zero, List.eraseIdx_cons_succ, List.set_cons_zero, List.set_cons_succ] at hH
                              subst hH
                              refine ops_ro' rfl (ro_fieldAddr fa56_2 rfl) rfl ?_
                              refine ops_eff0 rfl (eff_store 1 sc9 rfl rfl rfl rfl (Nat.le_of_ble_eq_true rfl) (warm_zero _)) rfl ?_
                              rintro _ _ rfl
                              refine ops_nil ?_
                              refine InBlock_normal ?_
                              refine Then_normal ?_
                              refine over_cut (kept ⟨((rr0.text 256).1.text 256).1, { Rc.zero with k := (k : Int), pa := (rr0.text 256).2, to := ((rr0.text 256).1.text 256).2 }, none, 0, ⟨by rw [(show axOf (k : Int) = (⟨true, true, false, false, false, false, false, false⟩, true) from by unfold axOf; rw [if_neg (by omega)]; rw [if_neg (by omega)]; rw [if_neg (by omega)]; rw [if_neg (by omega)]; rw [if_neg (by omega)]; rw [if_neg (by omega)]; rw [if_neg (by omega)]; rw [if_pos (by omega)])]; rfl, (R.on_text (R.on_text o0 256) 256), hax⟩, rfl, rfl⟩ ?_ ?_ ?_)
                              · exact (by repeat (first | exact Has.nil _ | refine Has.cons rfl ?_))
                              · exact (by repeat (first | exact Has.nil _ | refine Has.cons rfl ?_))
                              · exact (SubH.cons 1 rfl (SubH.cons 0 rfl (SubH.rown (SubH.cons 0 rfl (SubH.cons 0 rfl (SubH.nil _))))))
                            · replace hc93 := of_decide_eq_false hc93
                              dsimp only at hc93
                              refine wp_region' ?_
                              refine ops_ro' rfl (ro_move rfl) rfl ?_
                              refine ops_eff' rfl (eff_callM (Pre := [_]) Try.call84 rfl rfl (by repeat (first | exact Split.nil _ | apply Split.cons 0 rfl | apply Split.cons 1 rfl | apply Split.cons 2 rfl | apply Split.cons 3 rfl | apply Split.cons 4 rfl | apply Split.cons 5 rfl | apply Split.cons 6 rfl | apply Split.cons 7 rfl | apply Split.cons 8 rfl | apply Split.cons 9 rfl | apply Split.cons 10 rfl | apply Split.cons 11 rfl)) (qText b14 p c b rr0 (by first | exact ⟨Vw.pick 0 rfl hi.vw, hi.cap, hi.len⟩ | exact ⟨Vw.pick 1 rfl hi.vw, hi.cap, hi.len⟩ | exact ⟨Vw.pick 2 rfl hi.vw, hi.cap, hi.len⟩ | exact ⟨Vw.pick 3 rfl hi.vw, hi.cap, hi.len⟩ | exact ⟨Vw.pick 4 rfl hi.vw, hi.cap, hi.len⟩ | exact ⟨Vw.pick 5 rfl hi.vw, hi.cap, hi.len⟩ | exact ⟨Vw.pick 6 rfl hi.vw, hi.cap, hi.len⟩ | exact ⟨Vw.pick 7 rfl hi.vw, hi.cap, hi.len⟩) o0 256 (by decide))) rfl ?_
                              rintro _ H' ⟨_, ⟨rfl, rfl⟩, hH⟩
                              simp only [List.cons_append, List.nil_append, List.eraseIdx_cons_zero, List.eraseIdx_cons_succ, List.set_cons_zero, List.set_cons_succ] at hH
                              subst hH
                              refine ops_ro' rfl (ro_fieldAddr fa56_1 rfl) rfl ?_
                              refine ops_eff0 rfl (eff_store 1 sc9 rfl rfl rfl rfl (Nat.le_of_ble_eq_true rfl) (warm_zero _)) rfl ?_
                              rintro _ _ rfl
                              refine ops_nil ?_
                              refine InBlock_normal ?_
                              refine Then_normal ?_
                              refine over_cut (kept ⟨(rr0.text 256).1, { Rc.zero with k := (k : Int), pa := (rr0.text 256).2 }, none, 0, ⟨by rw [(show axOf (k : Int) = (⟨true, false, false, false, false, false, false, false⟩, true) from by unfold axOf; rw [if_neg (by omega)]; rw [if_neg (by omega)]; rw [if_neg (by omega)]; rw [if_neg (by omega)]; rw [if_pos (by omega)])]; rfl, (R.on_text o0 256), hax⟩, rfl, rfl⟩ ?_ ?_ ?_)
                              · exact (by repeat (first | exact Has.nil _ | refine Has.cons rfl ?_))
                              · exact (by repeat (first | exact Has.nil _ | refine Has.cons rfl ?_))
                              · exact (SubH.cons 1 rfl (SubH.cons 0 rfl (SubH.rown (SubH.cons 0 rfl (SubH.cons 0 rfl (SubH.nil _))))))
        · rintro Δ LL ⟨rr8, cc8, dp, dn, ⟨f8, o8, hax⟩, rfl, rfl⟩
          simp only [List.cons_append, List.nil_append]
          refine wp_seq' ?_
          refine wp_seq' ?_
          refine wp_region' ?_
          refine ops_ro' rfl (ro_move rfl) rfl ?_
          refine ops_eff' rfl (eff_call Try.call85 rfl rfl (by repeat (first | exact Split.nil _ | apply Split.cons 0 rfl | apply Split.cons 1 rfl | apply Split.cons 2 rfl | apply Split.cons 3 rfl | apply Split.cons 4 rfl | apply Split.cons 5 rfl | apply Split.cons 6 rfl | apply Split.cons 7 rfl | apply Split.cons 8 rfl | apply Split.cons 9 rfl | apply Split.cons 10 rfl | apply Split.cons 11 rfl)) (qFine b14 p c b rr8 o8 hb)) rfl ?_
          rintro _ H' ⟨_, ⟨rfl, rfl⟩, hH⟩
          simp only [List.cons_append, List.nil_append, List.eraseIdx_cons_zero, List.eraseIdx_cons_succ, List.set_cons_zero, List.set_cons_succ] at hH
          subst hH
          refine ops_ro' rfl (ro_not rfl rfl) rfl ?_
          refine ops_nil ?_
          refine Then_normal ?_
          refine wp_cond' rfl (fun hc103 => ?_) (fun hc103 => ?_)
          · simp only [Bool.and_eq_true, decide_eq_true_eq, Bool.not_eq_true', decide_eq_false_iff_not, bne_iff_ne, ne_eq] at hc103
            refine wp_seq' ?_
            refine wp_region' ?_
            refine ops_ro' rfl (ro_move rfl) rfl ?_
            refine ops_ro' rfl (ro_build rfl (bld_struct (cs := Rc.zero.cs none 0) st56 rfl)) rfl ?_
            refine ops_ro' rfl (ro_assign rfl) rfl ?_
            refine ops_eff0 rfl (eff_storeA 3 ag56 rfl rfl rfl rfl rfl (Nat.le_of_ble_eq_true rfl) (warm_zero _)) rfl ?_
            rintro _ _ rfl
            refine ops_ro' rfl (ro_assign rfl) rfl ?_
            refine ops_nil ?_
            refine Then_normal ?_
            refine wp_ret' ?_
            refine Then_ret ?_
            refine' doneS_ret (resv3 rfl (rv_tmp rfl) (rv_cellA ag56 rfl (by first | exact RdN.of_pick 0 rfl rdn_all | exact RdN.of_pick 1 rfl rdn_all | exact RdN.of_pick 2 rfl rdn_all | exact RdN.of_pick 3 rfl rdn_all | exact RdN.of_pick 4 rfl rdn_all | exact RdN.of_pick 5 rfl rdn_all | exact RdN.of_pick 6 rfl rdn_all | exact RdN.of_pick 7 rfl rdn_all | exact RdN.of_pick 8 rfl rdn_all) rfl) (rv_tmp rfl)) ?_ ?_
            rotate_left 1
            have HX : decQ b = (id, Rc.zero, 12) := by
              unfold decQ
              rw [if_neg (by omega), e1]
              simp only
              rw [e2]
              simp only
              rw [if_neg (by rw [hax]; decide), ← f8]
              simp only
              rw [if_neg (by simp_all)]
            rw [HX]
            exact ⟨_, ⟨none, 0, rfl, rfl⟩, rfl⟩
            exact (SubH.rown (SubH.cons 4 rfl (SubH.nil _)))
          · simp only [Bool.and_eq_false_iff, decide_eq_false_iff_not, Bool.not_eq_false', decide_eq_true_eq] at hc103
            refine wp_skip' ?_
            refine Then_normal ?_
            refine wp_seq' ?_
            refine wp_draw 3 (by kernel_rfl) (Split.all _) ?_
            refine any_ro' (i := 0) (by kernel_rfl) rfl rfl (ro_move rfl) rfl (fun _ _ _ h => h) ?_
            refine any_ro' (i := 1) (by kernel_rfl) rfl rfl (ro_loadA ag56 rfl (RdN.of_pick 1 rfl rdn_all) rfl) rfl (fun _ _ _ h => h) ?_
            refine any_ro' (i := 2) (by kernel_rfl) rfl rfl (ro_assign rfl) rfl (fun _ _ _ h => h) ?_
            refine any_unlock (m' := 5) (L' := []) (by kernel_rfl) unlock ?_
            simp only [List.cons_append, List.nil_append, List.append_nil]
            refine any_eff0 (i := 3) (by kernel_rfl) rfl rfl (eff_storeA 3 ag56 rfl rfl rfl rfl rfl (Nat.le_of_ble_eq_true rfl) (warm_zero _)) rfl ?_
            rintro _ _ rfl
            refine any_ro' (i := 4) (by kernel_rfl) rfl rfl (ro_assign rfl) rfl (fun _ _ _ h => h) ?_
            refine any_doneH (by kernel_rfl) ?_
            refine Then_normal ?_
            refine wp_ret' ?_
            refine' doneS_ret (resv3 rfl (rv_tmp rfl) (rv_cellA ag56 rfl (by first | exact RdN.of_pick 0 rfl rdn_all | exact RdN.of_pick 1 rfl rdn_all | exact RdN.of_pick 2 rfl rdn_all | exact RdN.of_pick 3 rfl rdn_all | exact RdN.of_pick 4 rfl rdn_all | exact RdN.of_pick 5 rfl rdn_all | exact RdN.of_pick 6 rfl rdn_all | exact RdN.of_pick 7 rfl rdn_all | exact RdN.of_pick 8 rfl rdn_all) rfl) (rv_tmp rfl)) ?_ ?_
            rotate_left 1
            have HX : decQ b = (id, cc8, 0) := by
              unfold decQ
              rw [if_neg (by omega), e1]
              simp only
              rw [e2]
              simp only
              rw [if_neg (by rw [hax]; decide), ← f8]
              simp only
              rw [if_pos (by simp_all)]
            rw [HX]
            exact ⟨_, ⟨dp, dn, rfl, rfl⟩, rfl⟩
            exact (SubH.cons 2 rfl (SubH.cons 3 rfl (SubH.nil _)))


theorem fin_no {r : R} (h : r.why ≠ 0) : r.fin.1 ≠ 0 := by unfold R.fin; rw [if_neg h]; exact h
theorem text_no {r : R} {n : Int} (h : r.why ≠ 0) : (r.text n).1.why ≠ 0 := by
  unfold R.text
  have e : (r.get 4).1 = r := by unfold R.get R.take; rw [if_pos h]
  rw [e]
  have key : ∀ q : R, q.why ≠ 0 → ∀ k : Int, (q.take k).1.why ≠ 0 := fun q hq k => by unfold R.take; rw [if_pos hq]; exact hq
  refine key _ ?_ _
  generalize (if 0 > n then 0 else n) = z
  split
  · unfold R.refuse; rw [if_neg h]; exact h
  · exact h
theorem fail_no (r : R) : (r.fail 12).why ≠ 0 := by
  unfold R.fail R.refuse
  rw [if_neg (by decide)]
  split
  · exact (by decide : (12 : Int) ≠ 0)
  · assumption
theorem status_ok {k : Int} {r0 r2 : R} {n2 : Nat} (hk : k = 1) (e3 : r0.get 4 = (r2, n2)) : (decide ((n2 : Int) ≤ 2147483647) = true → (((r2.text 256).1.text 256).1, ({ Pc.zero with k := k, s := (n2 : Int) } : Pc)) = decB k r0) ∧ (¬ decide ((n2 : Int) ≤ 2147483647) = true → (decB k r0).1.fin.1 ≠ 0) := by
  unfold decB
  rw [if_pos hk, e3]
  simp only [decide_eq_true_eq]
  refine ⟨fun h => ?_, fun h => ?_⟩
  · rw [show gateN r2 n2 2147483647 = r2 from by unfold gateN; rw [if_neg (by omega)]]
  · rw [show gateN r2 n2 2147483647 = r2.fail 12 from by unfold gateN; rw [if_pos (by omega)]]
    exact fin_no (text_no (text_no (fail_no r2)))
theorem names_ok {k : Int} {r0 r2 r : R} {n2 n : Nat} {acc : List Nm} (hk : k = 4) (e3 : r0.get 4 = (r2, n2)) (hl : Lft n2 r2 n r acc) (hx : n = 0 ∨ ¬ n2 ≤ 100 ∨ r.why ≠ 0) : (decide ((n2 : Int) ≤ 100) = true → (r, ({ Pc.zero with k := k, ns := acc } : Pc)) = decB k r0) ∧ (¬ decide ((n2 : Int) ≤ 100) = true → (decB k r0).1.fin.1 ≠ 0) := by
  unfold decB readL
  rw [if_neg (by omega), if_neg (by omega), if_neg (by omega), if_pos hk, e3]
  simp only [decide_eq_true_eq]
  refine ⟨fun h => ?_, fun h => ?_⟩
  · rw [show gateN r2 n2 100 = r2 from by unfold gateN; rw [if_neg (by omega)]]
    unfold Lft at hl
    rw [hl, lstN_stop (by rcases hx with h1 | h1 | h1; exact .inl h1; omega; exact .inr h1)]
    simp
  · rw [show gateN r2 n2 100 = r2.fail 12 from by unfold gateN; rw [if_pos (by omega)], lstN_stop (.inr (fail_no r2))]
    exact fin_no (fail_no r2)
theorem r17DecP_spec (V : HProp) (p : Option Addr) (c : Nat) (b : List UInt8) (hV : Vw V (.slice p b.length c) b.length (cel b)) (hc : b.length ≤ c) (hb : b.length ≤ 140737488355328) : Tri Try.prog 74 [.slice p b.length c] [V]
    (fun v H' => ∃ K, (∃ dp dn np nn, v = .tuple #[.int .u32 ((decP b).1 : Int), (decP b).2.1.v dp dn np nn, .int .i64 (decP b).2.2] ∧ K = [row 5 1 (.slice dp (decP b).2.1.d.length dn) (decP b).2.1.d.length (cel (decP b).2.1.d), row 120 8 (.slice np (decP b).2.1.ns.length nn) (decP b).2.1.ns.length (flat Nm.cs (decP b).2.1.ns)]) ∧ H' = K ++ [V]) := by
  refine tri_of_wpS Try.func74 rfl Try.ntmps74 (by simp) ?_
  refine wp_seq' ?_
  refine wp_region' ?_
  refine ops_ro' rfl (ro_assign rfl) rfl ?_
  refine ops_eff' rfl (eff_alloc z66) rfl ?_
  rintro _ _ ⟨b3, rfl, rfl⟩
  refine ops_ro' rfl (ro_assign rfl) rfl ?_
  refine ops_nil ?_
  refine Then_normal ?_
  refine wp_seq' ?_
  refine wp_seq' ?_
  refine wp_region' ?_
  refine ops_ro' rfl (ro_move rfl) rfl ?_
  refine ops_ro' rfl (ro_sliceLen Try.underlying32 rfl) rfl ?_
  refine ops_ro' rfl (ro_lss rfl rfl rfl) rfl ?_
  refine ops_nil ?_
  refine Then_normal ?_
  refine wp_cond' rfl (fun hc14 => ?_) (fun hc14 => ?_)
  · replace hc14 := of_decide_eq_true hc14
    refine wp_seq' ?_
    refine wp_region' ?_
    refine ops_ro' rfl (ro_build rfl (bld_struct (cs := Pc.zero.cs none 0 none 0) st66 rfl)) rfl ?_
    refine ops_ro' rfl (ro_assign rfl) rfl ?_
    refine ops_eff0 rfl (eff_storeA 0 ag66 rfl rfl rfl rfl rfl (Nat.le_of_ble_eq_true rfl) (warm_zero _)) rfl ?_
    rintro _ _ rfl
    refine ops_ro' rfl (ro_assign rfl) rfl ?_
    refine ops_nil ?_
    refine Then_normal ?_
    refine wp_ret' ?_
    refine Then_ret ?_
    refine' doneS_ret (resv3 rfl (rv_tmp rfl) (rv_cellA ag66 rfl (by first | exact RdN.of_pick 0 rfl rdn_all | exact RdN.of_pick 1 rfl rdn_all | exact RdN.of_pick 2 rfl rdn_all | exact RdN.of_pick 3 rfl rdn_all | exact RdN.of_pick 4 rfl rdn_all | exact RdN.of_pick 5 rfl rdn_all | exact RdN.of_pick 6 rfl rdn_all | exact RdN.of_pick 7 rfl rdn_all | exact RdN.of_pick 8 rfl rdn_all) rfl) (rv_tmp rfl)) ?_ ?_
    rotate_left 1
    have HX : decP b = (0, Pc.zero, 10) := by unfold decP; rw [if_pos (by omega)]
    rw [HX]
    exact ⟨_, ⟨none, 0, none, 0, rfl, rfl⟩, rfl⟩
    exact (SubH.rown (SubH.rown (SubH.cons 1 rfl (SubH.nil _))))
  · replace hc14 := of_decide_eq_false hc14
    refine wp_skip' ?_
    refine Then_normal ?_
    refine wp_seq' ?_
    refine wp_region' ?_
    refine ops_ro' rfl (ro_move rfl) rfl ?_
    refine ops_ro' rfl (ro_build rfl (bld_struct (cs := [.slice p b.length c, .int .i64 0, .bool false, .int .i64 0, .int .i64 0]) st134 rfl)) rfl ?_
    refine ops_eff' rfl (eff_box rfl) rfl ?_
    rintro _ _ ⟨b18, rfl, rfl⟩
    refine ops_ro' rfl (ro_assign rfl) rfl ?_
    refine ops_nil ?_
    refine Then_normal ?_
    refine wp_seq' ?_
    obtain hi : Rin V p c b := ⟨hV, hc, hb⟩
    refine wp_sub' (L := [rq b18 (.slice p b.length c) (R.new b), own b3 (.cells (Pc.zero.cs none 0 none 0).toArray 66 (0, 0)), V]) (by show SubH _ _; rw [rq_no (show (R.new b).why = 0 from rfl)]; exact (by repeat (first | exact SubH.nil _ | refine SubH.cons 0 rfl ?_ | refine SubH.cons 1 rfl ?_ | refine SubH.cons 2 rfl ?_ | refine SubH.cons 3 rfl ?_ | refine SubH.cons 4 rfl ?_ | refine SubH.cons 5 rfl ?_ | refine SubH.cons 6 rfl ?_ | refine SubH.cons 7 rfl ?_ | refine SubH.cons 8 rfl ?_ | refine SubH.cons 9 rfl ?_ | refine SubH.cons 10 rfl ?_ | refine SubH.cons 11 rfl ?_ | refine SubH.cons 12 rfl ?_ | refine SubH.cons 13 rfl ?_ | refine SubH.rown ?_))) ?_
    refine wp_region' ?_
    refine ops_ro' rfl (ro_move rfl) rfl ?_
    refine ops_eff' rfl (eff_callM (Pre := [_]) Try.call83 rfl rfl (by repeat (first | exact Split.nil _ | apply Split.cons 0 rfl | apply Split.cons 1 rfl | apply Split.cons 2 rfl | apply Split.cons 3 rfl | apply Split.cons 4 rfl | apply Split.cons 5 rfl | apply Split.cons 6 rfl | apply Split.cons 7 rfl | apply Split.cons 8 rfl | apply Split.cons 9 rfl | apply Split.cons 10 rfl | apply Split.cons 11 rfl)) (qByte b18 p c b (R.new b) (by first | exact ⟨Vw.pick 0 rfl hi.vw, hi.cap, hi.len⟩ | exact ⟨Vw.pick 1 rfl hi.vw, hi.cap, hi.len⟩ | exact ⟨Vw.pick 2 rfl hi.vw, hi.cap, hi.len⟩ | exact ⟨Vw.pick 3 rfl hi.vw, hi.cap, hi.len⟩ | exact ⟨Vw.pick 4 rfl hi.vw, hi.cap, hi.len⟩ | exact ⟨Vw.pick 5 rfl hi.vw, hi.cap, hi.len⟩ | exact ⟨Vw.pick 6 rfl hi.vw, hi.cap, hi.len⟩ | exact ⟨Vw.pick 7 rfl hi.vw, hi.cap, hi.len⟩) (R.on_new _))) rfl ?_
    rintro _ H' ⟨_, ⟨rfl, rfl⟩, hH⟩
    simp only [List.cons_append, List.nil_append, List.eraseIdx_cons_zero, List.eraseIdx_cons_succ, List.set_cons_zero, List.set_cons_succ] at hH
    subst hH
    have hl1 := get_lt (R.new b) 1
    simp only [Nat.reducePow] at hl1
    have o01 := R.on_get (R.on_new b) 1
    generalize e1 : (R.new b).get 1 = t1 at *
    obtain ⟨r1, kk⟩ := t1
    simp only at *
    refine ops_ro' rfl (ro_sub rfl rfl (wrap_i64_in (by omega) (by omega))) rfl ?_
    refine ops_ro' rfl (ro_build rfl (bld_struct (cs := Pc.cs { Pc.zero with k := (kk : Int) - 100 } none 0 none 0) st66 rfl)) rfl ?_
    refine ops_eff' rfl (eff_alloc z66) rfl ?_
    rintro _ _ ⟨b6, rfl, rfl⟩
    refine ops_eff0 rfl (eff_storeA 0 ag66 rfl rfl rfl rfl rfl (Nat.le_of_ble_eq_true rfl) (warm_zero _)) rfl ?_
    rintro _ _ rfl
    refine ops_nil ?_
    refine Then_normal ?_
    refine wp_seq' ?_
    refine wp_region' ?_
    refine ops_ro' rfl (ro_move rfl) rfl ?_
    refine ops_eff' rfl (eff_callM (Pre := [_]) Try.call99 rfl rfl (by repeat (first | exact Split.nil _ | apply Split.cons 0 rfl | apply Split.cons 1 rfl | apply Split.cons 2 rfl | apply Split.cons 3 rfl | apply Split.cons 4 rfl | apply Split.cons 5 rfl | apply Split.cons 6 rfl | apply Split.cons 7 rfl | apply Split.cons 8 rfl | apply Split.cons 9 rfl | apply Split.cons 10 rfl | apply Split.cons 11 rfl)) (qU32 b18 p c b r1 (by first | exact ⟨Vw.pick 0 rfl hi.vw, hi.cap, hi.len⟩ | exact ⟨Vw.pick 1 rfl hi.vw, hi.cap, hi.len⟩ | exact ⟨Vw.pick 2 rfl hi.vw, hi.cap, hi.len⟩ | exact ⟨Vw.pick 3 rfl hi.vw, hi.cap, hi.len⟩ | exact ⟨Vw.pick 4 rfl hi.vw, hi.cap, hi.len⟩ | exact ⟨Vw.pick 5 rfl hi.vw, hi.cap, hi.len⟩ | exact ⟨Vw.pick 6 rfl hi.vw, hi.cap, hi.len⟩ | exact ⟨Vw.pick 7 rfl hi.vw, hi.cap, hi.len⟩) o01)) rfl ?_
    rintro _ H' ⟨_, ⟨rfl, rfl⟩, hH⟩
    simp only [List.cons_append, List.nil_append, List.eraseIdx_cons_zero, List.eraseIdx_cons_succ, List.set_cons_zero, List.set_cons_succ] at hH
    subst hH
    have o0 := R.on_get o01 4
    generalize e2 : r1.get 4 = t2 at *
    obtain ⟨r0, id⟩ := t2
    simp only at *
    refine ops_ro' rfl (ro_assign rfl) rfl ?_
    refine ops_nil ?_
    refine Then_normal ?_
    refine wp_seq' ?_
    refine wp_seq' ?_
    refine wp_region' ?_
    refine ops_ro' rfl (ro_fieldAddr fa66_0 rfl) rfl ?_
    refine ops_ro' rfl (ro_load sc3 rfl (Rd.pick 1 rfl (Rd.own rfl))) rfl ?_
    refine ops_ro' rfl (ro_lss rfl rfl rfl) rfl ?_
    refine ops_split rfl rfl rfl (fun hg28 => ?_) (fun hg28 => ?_)
    · replace hg28 := of_decide_eq_true hg28
      dsimp only at hg28
      refine ops_skip' rfl rfl ?_
      refine ops_skip' rfl rfl ?_
      refine ops_skip' rfl rfl ?_
      refine ops_ro' rfl (ro_pick rfl rfl) rfl ?_
      refine ops_nil ?_
      refine Then_normal ?_
      refine wp_condT rfl ?_
      refine wp_seq' ?_
      refine wp_region' ?_
      refine ops_ro' rfl (ro_move rfl) rfl ?_
      refine ops_ro' rfl (ro_build rfl (bld_struct (cs := Pc.zero.cs none 0 none 0) st66 rfl)) rfl ?_
      refine ops_ro' rfl (ro_assign rfl) rfl ?_
      refine ops_eff0 rfl (eff_storeA 2 ag66 rfl rfl rfl rfl rfl (Nat.le_of_ble_eq_true rfl) (warm_zero _)) rfl ?_
      rintro _ _ rfl
      refine ops_ro' rfl (ro_assign rfl) rfl ?_
      refine ops_nil ?_
      refine Then_normal ?_
      refine wp_ret' ?_
      refine Then_ret ?_
      refine' doneS_ret (resv3 rfl (rv_tmp rfl) (rv_cellA ag66 rfl (by first | exact RdN.of_pick 0 rfl rdn_all | exact RdN.of_pick 1 rfl rdn_all | exact RdN.of_pick 2 rfl rdn_all | exact RdN.of_pick 3 rfl rdn_all | exact RdN.of_pick 4 rfl rdn_all | exact RdN.of_pick 5 rfl rdn_all | exact RdN.of_pick 6 rfl rdn_all | exact RdN.of_pick 7 rfl rdn_all | exact RdN.of_pick 8 rfl rdn_all) rfl) (rv_tmp rfl)) ?_ ?_
      rotate_left 1
      have HX : decP b = (id, Pc.zero, 23) := by
        unfold decP
        rw [if_neg (by omega), e1]
        simp only
        rw [e2]
        simp only
        rw [if_pos (by omega)]
      rw [HX]
      exact ⟨_, ⟨none, 0, none, 0, rfl, rfl⟩, rfl⟩
      exact (SubH.rown (SubH.rown (SubH.cons 3 rfl (SubH.nil _))))
    · replace hg28 := of_decide_eq_false hg28
      dsimp only at hg28
      refine ops_ro' rfl (ro_fieldAddr fa66_0 rfl) rfl ?_
      refine ops_ro' rfl (ro_load sc3 rfl (Rd.pick 1 rfl (Rd.own rfl))) rfl ?_
      refine ops_ro' rfl (ro_gtr rfl rfl rfl) rfl ?_
      refine ops_ro' rfl (ro_pick rfl rfl) rfl ?_
      refine ops_nil ?_
      refine Then_normal ?_
      refine wp_cond' rfl (fun hc32 => ?_) (fun hc32 => ?_)
      · replace hc32 := of_decide_eq_true hc32
        dsimp only at hc32
        refine wp_seq' ?_
        refine wp_region' ?_
        refine ops_ro' rfl (ro_move rfl) rfl ?_
        refine ops_ro' rfl (ro_build rfl (bld_struct (cs := Pc.zero.cs none 0 none 0) st66 rfl)) rfl ?_
        refine ops_ro' rfl (ro_assign rfl) rfl ?_
        refine ops_eff0 rfl (eff_storeA 2 ag66 rfl rfl rfl rfl rfl (Nat.le_of_ble_eq_true rfl) (warm_zero _)) rfl ?_
        rintro _ _ rfl
        refine ops_ro' rfl (ro_assign rfl) rfl ?_
        refine ops_nil ?_
        refine Then_normal ?_
        refine wp_ret' ?_
        refine Then_ret ?_
        refine' doneS_ret (resv3 rfl (rv_tmp rfl) (rv_cellA ag66 rfl (by first | exact RdN.of_pick 0 rfl rdn_all | exact RdN.of_pick 1 rfl rdn_all | exact RdN.of_pick 2 rfl rdn_all | exact RdN.of_pick 3 rfl rdn_all | exact RdN.of_pick 4 rfl rdn_all | exact RdN.of_pick 5 rfl rdn_all | exact RdN.of_pick 6 rfl rdn_all | exact RdN.of_pick 7 rfl rdn_all | exact RdN.of_pick 8 rfl rdn_all) rfl) (rv_tmp rfl)) ?_ ?_
        rotate_left 1
        have HX : decP b = (id, Pc.zero, 23) := by
          unfold decP
          rw [if_neg (by omega), e1]
          simp only
          rw [e2]
          simp only
          rw [if_pos (by omega)]
        rw [HX]
        exact ⟨_, ⟨none, 0, none, 0, rfl, rfl⟩, rfl⟩
        exact (SubH.rown (SubH.rown (SubH.cons 3 rfl (SubH.nil _))))
      · replace hc32 := of_decide_eq_false hc32
        dsimp only at hc32
        refine wp_skip' ?_
        refine Then_normal ?_
        refine wp_seq' ?_
        refine wp_region' ?_
        refine ops_ro' rfl (ro_assign rfl) rfl ?_
        refine ops_nil ?_
        refine Then_normal ?_
        refine wp_cutK 1031 (fun Δ LL => ∃ (r8 : R) (c8 : Pc) (dp : Option Addr) (dn : Nat) (np : Option Addr) (nn : Nat) (fn : Bool), (((fn = true → (r8, c8) = decB ((kk : Int) - 100) r0) ∧ (¬ fn = true → (decB ((kk : Int) - 100) r0).1.fin.1 ≠ 0)) ∧ r8.On b ∧ 1 ≤ (kk : Int) - 100 ∧ (kk : Int) - 100 ≤ 5) ∧ Δ = [(8, .bool fn)] ∧ LL = [own b6 (.cells (Pc.cs c8 dp dn np nn).toArray 66 (0, 0)), rq b18 (.slice p b.length c) r8, row 5 1 (.slice dp c8.d.length dn) c8.d.length (cel c8.d), row 120 8 (.slice np c8.ns.length nn) c8.ns.length (flat Nm.cs c8.ns), own b3 (.cells (Pc.zero.cs none 0 none 0).toArray 66 (0, 0)), V]) (Has.cons (k := 3) rfl (Has.cons (k := 5) rfl (Has.cons (k := 6) rfl (Has.cons (k := 7) rfl (Has.nil _))))) ?_ ?_
        · refine wp_seq' ?_
          refine wp_region' ?_
          refine ops_ro' rfl (ro_fieldAddr fa66_0 rfl) rfl ?_
          refine ops_ro' rfl (ro_load sc3 rfl (Rd.pick 1 rfl (Rd.own rfl))) rfl ?_
          refine ops_nil ?_
          refine Then_normal ?_
          refine wp_block' ?_
          refine wp_seq' ?_
          refine wp_region' ?_
          refine ops_ro' rfl (ro_eql rfl rfl rfl) rfl ?_
          refine ops_ro' rfl (ro_assign rfl) rfl ?_
          refine ops_nil ?_
          refine Then_normal ?_
          refine wp_cond' rfl (fun hc37 => ?_) (fun hc37 => ?_)
          · replace hc37 := of_decide_eq_true hc37
            dsimp only at hc37
            refine wp_seq' ?_
            refine wp_region' ?_
            refine ops_ro' rfl (ro_move rfl) rfl ?_
            refine ops_eff' rfl (eff_callM (Pre := [_]) Try.call99 rfl rfl (by repeat (first | exact Split.nil _ | apply Split.cons 0 rfl | apply Split.cons 1 rfl | apply Split.cons 2 rfl | apply Split.cons 3 rfl | apply Split.cons 4 rfl | apply Split.cons 5 rfl | apply Split.cons 6 rfl | apply Split.cons 7 rfl | apply Split.cons 8 rfl | apply Split.cons 9 rfl | apply Split.cons 10 rfl | apply Split.cons 11 rfl)) (qU32 b18 p c b r0 (by first | exact ⟨Vw.pick 0 rfl hi.vw, hi.cap, hi.len⟩ | exact ⟨Vw.pick 1 rfl hi.vw, hi.cap, hi.len⟩ | exact ⟨Vw.pick 2 rfl hi.vw, hi.cap, hi.len⟩ | exact ⟨Vw.pick 3 rfl hi.vw, hi.cap, hi.len⟩ | exact ⟨Vw.pick 4 rfl hi.vw, hi.cap, hi.len⟩ | exact ⟨Vw.pick 5 rfl hi.vw, hi.cap, hi.len⟩ | exact ⟨Vw.pick 6 rfl hi.vw, hi.cap, hi.len⟩ | exact ⟨Vw.pick 7 rfl hi.vw, hi.cap, hi.len⟩) o0)) rfl ?_
            rintro _ H' ⟨_, ⟨rfl, rfl⟩, hH⟩
            simp only [List.cons_append, List.nil_append, List.eraseIdx_cons_zero, List.eraseIdx_cons_succ, List.set_cons_zero, List.set_cons_succ] at hH
            subst hH
            have hl2 := get_lt r0 4
            simp only [Nat.reducePow] at hl2
            have o2 := R.on_get o0 4
            generalize e3 : r0.get 4 = t3 at *
            obtain ⟨r2, n2⟩ := t3
            simp only at *
            refine ops_ro' rfl (ro_assign rfl) rfl ?_
            refine ops_nil ?_
            refine Then_normal ?_
            refine wp_seq' ?_
            refine wp_region' ?_
            refine ops_ro' rfl (ro_move rfl) rfl ?_
            refine ops_ro' rfl (ro_leq rfl rfl rfl) rfl ?_
            refine ops_ro' rfl (ro_assign rfl) rfl ?_
            refine ops_nil ?_
            refine Then_normal ?_
            refine wp_seq' ?_
            refine wp_region' ?_
            refine ops_ro' rfl (ro_move rfl) rfl ?_
            refine ops_ro' rfl (ro_conv Try.underlying40 Try.underlying3 rfl (wrap_natN (by omega))) rfl ?_
            refine ops_ro' rfl (ro_fieldAddr fa66_1 rfl) rfl ?_
            refine ops_eff0 rfl (eff_store 1 sc3 rfl rfl rfl rfl (Nat.le_of_ble_eq_true rfl) (warm_zero _)) rfl ?_
            rintro _ _ rfl
            refine ops_nil ?_
            refine Then_normal ?_
            refine wp_seq' ?_
            refine wp_region' ?_
            refine ops_ro' rfl (ro_move rfl) rfl ?_
            refine ops_eff' rfl (eff_callM (Pre := [_]) Try.call84 rfl rfl (by repeat (first | exact Split.nil _ | apply Split.cons 0 rfl | apply Split.cons 1 rfl | apply Split.cons 2 rfl | apply Split.cons 3 rfl | apply Split.cons 4 rfl | apply Split.cons 5 rfl | apply Split.cons 6 rfl | apply Split.cons 7 rfl | apply Split.cons 8 rfl | apply Split.cons 9 rfl | apply Split.cons 10 rfl | apply Split.cons 11 rfl)) (qText b18 p c b r2 (by first | exact ⟨Vw.pick 0 rfl hi.vw, hi.cap, hi.len⟩ | exact ⟨Vw.pick 1 rfl hi.vw, hi.cap, hi.len⟩ | exact ⟨Vw.pick 2 rfl hi.vw, hi.cap, hi.len⟩ | exact ⟨Vw.pick 3 rfl hi.vw, hi.cap, hi.len⟩ | exact ⟨Vw.pick 4 rfl hi.vw, hi.cap, hi.len⟩ | exact ⟨Vw.pick 5 rfl hi.vw, hi.cap, hi.len⟩ | exact ⟨Vw.pick 6 rfl hi.vw, hi.cap, hi.len⟩ | exact ⟨Vw.pick 7 rfl hi.vw, hi.cap, hi.len⟩) o2 256 (by decide))) rfl ?_
            rintro _ H' ⟨_, ⟨rfl, rfl⟩, hH⟩
            simp only [List.cons_append, List.nil_append, List.eraseIdx_cons_zero, List.eraseIdx_cons_succ, List.set_cons_zero, List.set_cons_succ] at hH
            subst hH
            refine ops_nil ?_
            refine Then_normal ?_
            refine wp_region' ?_
            refine ops_ro' rfl (ro_move rfl) rfl ?_
            refine ops_eff' rfl (eff_callM (Pre := [_]) Try.call84 rfl rfl (by repeat (first | exact Split.nil _ | apply Split.cons 0 rfl | apply Split.cons 1 rfl | apply Split.cons 2 rfl | apply Split.cons 3 rfl | apply Split.cons 4 rfl | apply Split.cons 5 rfl | apply Split.cons 6 rfl | apply Split.cons 7 rfl | apply Split.cons 8 rfl | apply Split.cons 9 rfl | apply Split.cons 10 rfl | apply Split.cons 11 rfl)) (qText b18 p c b (r2.text 256).1 (by first | exact ⟨Vw.pick 0 rfl hi.vw, hi.cap, hi.len⟩ | exact ⟨Vw.pick 1 rfl hi.vw, hi.cap, hi.len⟩ | exact ⟨Vw.pick 2 rfl hi.vw, hi.cap, hi.len⟩ | exact ⟨Vw.pick 3 rfl hi.vw, hi.cap, hi.len⟩ | exact ⟨Vw.pick 4 rfl hi.vw, hi.cap, hi.len⟩ | exact ⟨Vw.pick 5 rfl hi.vw, hi.cap, hi.len⟩ | exact ⟨Vw.pick 6 rfl hi.vw, hi.cap, hi.len⟩ | exact ⟨Vw.pick 7 rfl hi.vw, hi.cap, hi.len⟩) (R.on_text o2 256) 256 (by decide))) rfl ?_
            rintro _ H' ⟨_, ⟨rfl, rfl⟩, hH⟩
            simp only [List.cons_append, List.nil_append, List.eraseIdx_cons_zero, List.eraseIdx_cons_succ, List.set_cons_zero, List.set_cons_succ] at hH
            subst hH
            refine ops_nil ?_
            refine InBlock_normal ?_
            refine Then_normal ?_
            refine over_cut (kept ⟨((r2.text 256).1.text 256).1, { Pc.zero with k := (kk : Int) - 100, s := (n2 : Int) }, none, 0, none, 0, decide ((n2 : Int) ≤ 2147483647), ⟨status_ok (by omega) e3, R.on_text (R.on_text o2 256) 256, by omega, by omega⟩, rfl, rfl⟩ ?_ ?_ ?_)
            · exact (by repeat (first | exact Has.nil _ | refine Has.cons rfl ?_))
            · exact (by repeat (first | exact Has.nil _ | refine Has.cons rfl ?_))
            · exact (SubH.cons 1 rfl (SubH.cons 0 rfl (SubH.rown (SubH.rown (SubH.cons 0 rfl (SubH.cons 0 rfl (SubH.nil _)))))))
          · replace hc37 := of_decide_eq_false hc37
            dsimp only at hc37
            refine wp_seq' ?_
            refine wp_region' ?_
            refine ops_ro' rfl (ro_eql rfl rfl rfl) rfl ?_
            refine ops_ro' rfl (ro_assign rfl) rfl ?_
            refine ops_nil ?_
            refine Then_normal ?_
            refine wp_cond' rfl (fun hc50 => ?_) (fun hc50 => ?_)
            · replace hc50 := of_decide_eq_true hc50
              dsimp only at hc50
              refine wp_region' ?_
              refine ops_ro' rfl (ro_move rfl) rfl ?_
              refine ops_eff' rfl (eff_callM (Pre := [_]) Try.call84 rfl rfl (by repeat (first | exact Split.nil _ | apply Split.cons 0 rfl | apply Split.cons 1 rfl | apply Split.cons 2 rfl | apply Split.cons 3 rfl | apply Split.cons 4 rfl | apply Split.cons 5 rfl | apply Split.cons 6 rfl | apply Split.cons 7 rfl | apply Split.cons 8 rfl | apply Split.cons 9 rfl | apply Split.cons 10 rfl | apply Split.cons 11 rfl)) (qText b18 p c b r0 (by first | exact ⟨Vw.pick 0 rfl hi.vw, hi.cap, hi.len⟩ | exact ⟨Vw.pick 1 rfl hi.vw, hi.cap, hi.len⟩ | exact ⟨Vw.pick 2 rfl hi.vw, hi.cap, hi.len⟩ | exact ⟨Vw.pick 3 rfl hi.vw, hi.cap, hi.len⟩ | exact ⟨Vw.pick 4 rfl hi.vw, hi.cap, hi.len⟩ | exact ⟨Vw.pick 5 rfl hi.vw, hi.cap, hi.len⟩ | exact ⟨Vw.pick 6 rfl hi.vw, hi.cap, hi.len⟩ | exact ⟨Vw.pick 7 rfl hi.vw, hi.cap, hi.len⟩) o0 256 (by decide))) rfl ?_
              rintro _ H' ⟨_, ⟨rfl, rfl⟩, hH⟩
              simp only [List.cons_append, List.nil_append, List.eraseIdx_cons_zero, List.eraseIdx_cons_succ, List.set_cons_zero, List.set_cons_succ] at hH
              subst hH
              refine ops_ro' rfl (ro_fieldAddr fa66_2 rfl) rfl ?_
              refine ops_eff0 rfl (eff_store 1 sc9 rfl rfl rfl rfl (Nat.le_of_ble_eq_true rfl) (warm_zero _)) rfl ?_
              rintro _ _ rfl
              refine ops_nil ?_
              refine InBlock_normal ?_
              refine Then_normal ?_
              refine over_cut (kept ⟨(r0.text 256).1, { Pc.zero with k := (kk : Int) - 100, h := (r0.text 256).2 }, none, 0, none, 0, true, ⟨⟨fun _ => by unfold decB; rw [if_neg (by omega), if_pos (by omega)], fun h => absurd rfl h⟩, R.on_text o0 256, by omega, by omega⟩, rfl, rfl⟩ ?_ ?_ ?_)
              · exact (by repeat (first | exact Has.nil _ | refine Has.cons rfl ?_))
              · exact (by repeat (first | exact Has.nil _ | refine Has.cons rfl ?_))
              · exact (SubH.cons 1 rfl (SubH.cons 0 rfl (SubH.rown (SubH.rown (SubH.cons 0 rfl (SubH.cons 0 rfl (SubH.nil _)))))))
            · replace hc50 := of_decide_eq_false hc50
              dsimp only at hc50
              refine wp_seq' ?_
              refine wp_region' ?_
              refine ops_ro' rfl (ro_eql rfl rfl rfl) rfl ?_
              refine ops_ro' rfl (ro_assign rfl) rfl ?_
              refine ops_nil ?_
              refine Then_normal ?_
              refine wp_cond' rfl (fun hc55 => ?_) (fun hc55 => ?_)
              · replace hc55 := of_decide_eq_true hc55
                dsimp only at hc55
                refine wp_region' ?_
                refine ops_ro' rfl (ro_move rfl) rfl ?_
                refine ops_eff' rfl (eff_callM (Pre := [_]) Try.call84 rfl rfl (by repeat (first | exact Split.nil _ | apply Split.cons 0 rfl | apply Split.cons 1 rfl | apply Split.cons 2 rfl | apply Split.cons 3 rfl | apply Split.cons 4 rfl | apply Split.cons 5 rfl | apply Split.cons 6 rfl | apply Split.cons 7 rfl | apply Split.cons 8 rfl | apply Split.cons 9 rfl | apply Split.cons 10 rfl | apply Split.cons 11 rfl)) (qText b18 p c b r0 (by first | exact ⟨Vw.pick 0 rfl hi.vw, hi.cap, hi.len⟩ | exact ⟨Vw.pick 1 rfl hi.vw, hi.cap, hi.len⟩ | exact ⟨Vw.pick 2 rfl hi.vw, hi.cap, hi.len⟩ | exact ⟨Vw.pick 3 rfl hi.vw, hi.cap, hi.len⟩ | exact ⟨Vw.pick 4 rfl hi.vw, hi.cap, hi.len⟩ | exact ⟨Vw.pick 5 rfl hi.vw, hi.cap, hi.len⟩ | exact ⟨Vw.pick 6 rfl hi.vw, hi.cap, hi.len⟩ | exact ⟨Vw.pick 7 rfl hi.vw, hi.cap, hi.len⟩) o0 32768 (by decide))) rfl ?_
                rintro _ H' ⟨_, ⟨rfl, rfl⟩, hH⟩
                simp only [List.cons_append, List.nil_append, List.eraseIdx_cons_zero, List.eraseIdx_cons_succ, List.set_cons_zero, List.set_cons_succ] at hH
                subst hH
                refine ops_eff' rfl (eff_toBytesS Try.underlying9 Try.underlying32 Try.underlying5 rfl (by have h9 := R.text_len r0 32768; simp only [maxLen]; omega)) rfl ?_
                rintro _ _ ⟨b59, c59, rfl, rfl⟩
                refine ops_ro' rfl (ro_fieldAddr fa66_3 rfl) rfl ?_
                refine ops_eff0 rfl (eff_store 2 sc32 rfl rfl rfl rfl (Nat.le_of_ble_eq_true rfl) (warm_zero _)) rfl ?_
                rintro _ _ rfl
                refine ops_nil ?_
                refine InBlock_normal ?_
                refine Then_normal ?_
                refine over_cut (kept ⟨(r0.text 32768).1, { Pc.zero with k := (kk : Int) - 100, d := (r0.text 32768).2 }, some ⟨b59, 0, none⟩, c59, none, 0, true, ⟨⟨fun _ => by unfold decB; rw [if_neg (by omega), if_neg (by omega), if_pos (by omega)], fun h => absurd rfl h⟩, R.on_text o0 32768, by omega, by omega⟩, rfl, rfl⟩ ?_ ?_ ?_)
                · exact (by repeat (first | exact Has.nil _ | refine Has.cons rfl ?_))
                · exact (by repeat (first | exact Has.nil _ | refine Has.cons rfl ?_))
                · exact (SubH.cons 2 rfl (SubH.cons 1 rfl (SubH.cons 0 rfl (SubH.rown (SubH.cons 0 rfl (SubH.cons 0 rfl (SubH.nil _)))))))
              · replace hc55 := of_decide_eq_false hc55
                dsimp only at hc55
                refine wp_seq' ?_
                refine wp_region' ?_
                refine ops_ro' rfl (ro_eql rfl rfl rfl) rfl ?_
                refine ops_ro' rfl (ro_assign rfl) rfl ?_
                refine ops_nil ?_
                refine Then_normal ?_
                refine wp_cond' rfl (fun hc61 => ?_) (fun hc61 => ?_)
                · replace hc61 := of_decide_eq_true hc61
                  dsimp only at hc61
                  refine wp_seq' ?_
                  refine wp_region' ?_
                  refine ops_ro' rfl (ro_move rfl) rfl ?_
                  refine ops_eff' rfl (eff_callM (Pre := [_]) Try.call99 rfl rfl (by repeat (first | exact Split.nil _ | apply Split.cons 0 rfl | apply Split.cons 1 rfl | apply Split.cons 2 rfl | apply Split.cons 3 rfl | apply Split.cons 4 rfl | apply Split.cons 5 rfl | apply Split.cons 6 rfl | apply Split.cons 7 rfl | apply Split.cons 8 rfl | apply Split.cons 9 rfl | apply Split.cons 10 rfl | apply Split.cons 11 rfl)) (qU32 b18 p c b r0 (by first | exact ⟨Vw.pick 0 rfl hi.vw, hi.cap, hi.len⟩ | exact ⟨Vw.pick 1 rfl hi.vw, hi.cap, hi.len⟩ | exact ⟨Vw.pick 2 rfl hi.vw, hi.cap, hi.len⟩ | exact ⟨Vw.pick 3 rfl hi.vw, hi.cap, hi.len⟩ | exact ⟨Vw.pick 4 rfl hi.vw, hi.cap, hi.len⟩ | exact ⟨Vw.pick 5 rfl hi.vw, hi.cap, hi.len⟩ | exact ⟨Vw.pick 6 rfl hi.vw, hi.cap, hi.len⟩ | exact ⟨Vw.pick 7 rfl hi.vw, hi.cap, hi.len⟩) o0)) rfl ?_
                  rintro _ H' ⟨_, ⟨rfl, rfl⟩, hH⟩
                  simp only [List.cons_append, List.nil_append, List.eraseIdx_cons_zero, List.eraseIdx_cons_succ, List.set_cons_zero, List.set_cons_succ] at hH
                  subst hH
                  have hl2 := get_lt r0 4
                  simp only [Nat.reducePow] at hl2
                  have o2 := R.on_get o0 4
                  generalize e3 : r0.get 4 = t3 at *
                  obtain ⟨r2, n2⟩ := t3
                  simp only at *
                  refine ops_ro' rfl (ro_assign rfl) rfl ?_
                  refine ops_nil ?_
                  refine Then_normal ?_
                  refine wp_seq' ?_
                  refine wp_region' ?_
                  refine ops_ro' rfl (ro_move rfl) rfl ?_
                  refine ops_ro' rfl (ro_leq rfl rfl rfl) rfl ?_
                  refine ops_ro' rfl (ro_assign rfl) rfl ?_
                  refine ops_nil ?_
                  refine Then_normal ?_
                  refine wp_block' ?_
                  refine wp_loopK 23 (fun m Δ LL => ∃ (n : Nat) (r : R) (np : Option Addr) (nn : Nat) (acc : List Nm), (n = m ∧ n < 4294967296 ∧ acc.length + n ≤ 4294967296 ∧ Lft n2 r2 n r acc ∧ r.On b) ∧ Δ = [(10, .int .u32 (n : Nat))] ∧ LL = [own b6 (.cells (Pc.cs { Pc.zero with k := (kk : Int) - 100, ns := acc } none 0 np nn).toArray 66 (0, 0)), rq b18 (.slice p b.length c) r, row 120 8 (.slice np acc.length nn) acc.length (flat Nm.cs acc), own b3 (.cells (Pc.zero.cs none 0 none 0).toArray 66 (0, 0)), V]) (m := n2) (Has.cons (k := 3) rfl (Has.cons (k := 5) rfl (Has.cons (k := 6) rfl (Has.cons (k := 7) rfl (Has.cons (k := 8) rfl (Has.nil _)))))) (kept ⟨n2, r2, none, 0, [], ⟨rfl, hl2, by simp; omega, by unfold Lft; simp, o2⟩, rfl, rfl⟩ (by repeat (first | exact Has.nil _ | refine Has.cons rfl ?_)) (by repeat (first | exact Has.nil _ | refine Has.cons rfl ?_)) (by repeat (first | exact SubH.nil _ | refine SubH.cons 0 rfl ?_ | refine SubH.cons 1 rfl ?_ | refine SubH.cons 2 rfl ?_ | refine SubH.cons 3 rfl ?_ | refine SubH.cons 4 rfl ?_ | refine SubH.cons 5 rfl ?_ | refine SubH.cons 6 rfl ?_ | refine SubH.cons 7 rfl ?_ | refine SubH.cons 8 rfl ?_ | refine SubH.cons 9 rfl ?_ | refine SubH.cons 10 rfl ?_ | refine SubH.cons 11 rfl ?_ | refine SubH.cons 12 rfl ?_ | refine SubH.cons 13 rfl ?_ | refine SubH.rown ?_))) ?_
                  rintro m Δ LL ⟨n, r, np, nn, acc, ⟨hnm, hn, hacc, hlf, ho⟩, rfl, rfl⟩
                  simp only [List.cons_append, List.nil_append]
                  refine wp_seq' ?_
                  refine wp_seq' ?_
                  refine wp_region' ?_
                  refine ops_ro' rfl (ro_move rfl) rfl ?_
                  refine ops_ro' rfl (ro_gtr rfl rfl rfl) rfl ?_
                  refine ops_split rfl rfl rfl (fun hg69 => ?_) (fun hg69 => ?_)
                  · replace hg69 := of_decide_eq_true hg69
                    refine ops_ro' rfl (ro_move rfl) rfl ?_
                    refine ops_ro' rfl (ro_pick rfl rfl) rfl ?_
                    refine ops_split rfl rfl rfl (fun hg72 => ?_) (fun hg72 => ?_)
                    · replace hg72 := of_decide_eq_true hg72
                      refine ops_ro' rfl (ro_move rfl) rfl ?_
                      refine ops_ro' rfl (ro_nilCheck rfl) rfl ?_
                      refine ops_ro' rfl (ro_fieldAddr fa134_2 rfl) rfl ?_
                      refine ops_ro' rfl (ro_load sc4 rfl (Rd.pick 1 rfl (Rd.own rfl))) rfl ?_
                      refine ops_ro' rfl (ro_not rfl rfl) rfl ?_
                      refine ops_ro' rfl (ro_pick rfl rfl) rfl ?_
                      refine ops_nil ?_
                      refine Then_normal ?_
                      refine wp_cond' rfl (fun hc78 => ?_) (fun hc78 => ?_)
                      · simp only [Bool.and_eq_true, decide_eq_true_eq, Bool.not_eq_true', decide_eq_false_iff_not, bne_iff_ne, ne_eq] at hc78
                        refine wp_skip' ?_
                        refine Then_normal ?_
                        refine wp_seq' ?_
                        refine wp_block' ?_
                        refine wp_seq' ?_
                        refine wp_region' ?_
                        refine ops_ro' rfl (ro_move rfl) rfl ?_
                        refine ops_eff' rfl (eff_callM (Pre := [_]) Try.call84 rfl rfl (by repeat (first | exact Split.nil _ | apply Split.cons 0 rfl | apply Split.cons 1 rfl | apply Split.cons 2 rfl | apply Split.cons 3 rfl | apply Split.cons 4 rfl | apply Split.cons 5 rfl | apply Split.cons 6 rfl | apply Split.cons 7 rfl | apply Split.cons 8 rfl | apply Split.cons 9 rfl | apply Split.cons 10 rfl | apply Split.cons 11 rfl)) (qText b18 p c b r (by first | exact ⟨Vw.pick 0 rfl hi.vw, hi.cap, hi.len⟩ | exact ⟨Vw.pick 1 rfl hi.vw, hi.cap, hi.len⟩ | exact ⟨Vw.pick 2 rfl hi.vw, hi.cap, hi.len⟩ | exact ⟨Vw.pick 3 rfl hi.vw, hi.cap, hi.len⟩ | exact ⟨Vw.pick 4 rfl hi.vw, hi.cap, hi.len⟩ | exact ⟨Vw.pick 5 rfl hi.vw, hi.cap, hi.len⟩ | exact ⟨Vw.pick 6 rfl hi.vw, hi.cap, hi.len⟩ | exact ⟨Vw.pick 7 rfl hi.vw, hi.cap, hi.len⟩) ho 256 (by decide))) rfl ?_
                        rintro _ H' ⟨_, ⟨rfl, rfl⟩, hH⟩
                        simp only [List.cons_append, List.nil_append, List.eraseIdx_cons_zero, List.eraseIdx_cons_succ, List.set_cons_zero, List.set_cons_succ] at hH
                        subst hH
                        refine ops_ro' rfl (ro_build rfl (bld_struct (cs := Nm.cs ⟨(r.text 256).2, At.zero⟩) st120 rfl)) rfl ?_
                        refine ops_eff' rfl (eff_alloc z120) rfl ?_
                        rintro _ _ ⟨b11, rfl, rfl⟩
                        refine ops_eff0 rfl (eff_storeA 0 ag120 rfl rfl rfl rfl rfl (Nat.le_of_ble_eq_true rfl) (warm_zero _)) rfl ?_
                        rintro _ _ rfl
                        refine ops_nil ?_
                        refine Then_normal ?_
                        refine wp_seq' ?_
                        refine wp_region' ?_
                        refine ops_ro' rfl (ro_move rfl) rfl ?_
                        refine ops_eff' rfl (eff_callM (Pre := [_]) Try.call84 rfl rfl (by repeat (first | exact Split.nil _ | apply Split.cons 0 rfl | apply Split.cons 1 rfl | apply Split.cons 2 rfl | apply Split.cons 3 rfl | apply Split.cons 4 rfl | apply Split.cons 5 rfl | apply Split.cons 6 rfl | apply Split.cons 7 rfl | apply Split.cons 8 rfl | apply Split.cons 9 rfl | apply Split.cons 10 rfl | apply Split.cons 11 rfl)) (qText b18 p c b (r.text 256).1 (by first | exact ⟨Vw.pick 0 rfl hi.vw, hi.cap, hi.len⟩ | exact ⟨Vw.pick 1 rfl hi.vw, hi.cap, hi.len⟩ | exact ⟨Vw.pick 2 rfl hi.vw, hi.cap, hi.len⟩ | exact ⟨Vw.pick 3 rfl hi.vw, hi.cap, hi.len⟩ | exact ⟨Vw.pick 4 rfl hi.vw, hi.cap, hi.len⟩ | exact ⟨Vw.pick 5 rfl hi.vw, hi.cap, hi.len⟩ | exact ⟨Vw.pick 6 rfl hi.vw, hi.cap, hi.len⟩ | exact ⟨Vw.pick 7 rfl hi.vw, hi.cap, hi.len⟩) (R.on_text ho 256) 256 (by decide))) rfl ?_
                        rintro _ H' ⟨_, ⟨rfl, rfl⟩, hH⟩
                        simp only [List.cons_append, List.nil_append, List.eraseIdx_cons_zero, List.eraseIdx_cons_succ, List.set_cons_zero, List.set_cons_succ] at hH
                        subst hH
                        refine ops_nil ?_
                        refine Then_normal ?_
                        refine wp_seq' ?_
                        refine wp_region' ?_
                        refine ops_ro' rfl (ro_move rfl) rfl ?_
                        refine ops_eff' rfl (eff_callM (Pre := [_]) Try.call100 rfl rfl (by repeat (first | exact Split.nil _ | apply Split.cons 0 rfl | apply Split.cons 1 rfl | apply Split.cons 2 rfl | apply Split.cons 3 rfl | apply Split.cons 4 rfl | apply Split.cons 5 rfl | apply Split.cons 6 rfl | apply Split.cons 7 rfl | apply Split.cons 8 rfl | apply Split.cons 9 rfl | apply Split.cons 10 rfl | apply Split.cons 11 rfl)) (q14get b18 p c b ((r.text 256).1.text 256).1 (by first | exact ⟨Vw.pick 0 rfl hi.vw, hi.cap, hi.len⟩ | exact ⟨Vw.pick 1 rfl hi.vw, hi.cap, hi.len⟩ | exact ⟨Vw.pick 2 rfl hi.vw, hi.cap, hi.len⟩ | exact ⟨Vw.pick 3 rfl hi.vw, hi.cap, hi.len⟩ | exact ⟨Vw.pick 4 rfl hi.vw, hi.cap, hi.len⟩ | exact ⟨Vw.pick 5 rfl hi.vw, hi.cap, hi.len⟩ | exact ⟨Vw.pick 6 rfl hi.vw, hi.cap, hi.len⟩ | exact ⟨Vw.pick 7 rfl hi.vw, hi.cap, hi.len⟩) (R.on_text (R.on_text ho 256) 256))) rfl ?_
                        rintro _ H' ⟨_, ⟨rfl, rfl⟩, hH⟩
                        simp only [List.cons_append, List.nil_append, List.eraseIdx_cons_zero, List.eraseIdx_cons_succ, List.set_cons_zero, List.set_cons_succ] at hH
                        subst hH
                        refine ops_ro' rfl (ro_fieldAddr fa120_1 rfl) rfl ?_
                        refine ops_eff0 rfl (eff_storeA 1 ag54 rfl rfl rfl rfl rfl (Nat.le_of_ble_eq_true rfl) (warm_zero _)) rfl ?_
                        rintro _ _ rfl
                        refine ops_nil ?_
                        refine Then_normal ?_
                        refine wp_region' ?_
                        refine ops_ro' rfl (ro_fieldAddr fa66_4 rfl) rfl ?_
                        refine ops_ro' rfl (ro_load sc64 rfl (Rd.pick 2 rfl (Rd.own rfl))) rfl ?_
                        refine ops_ro' rfl (ro_loadA ag120 rfl (RdN.of_pick 1 rfl rdn_all) rfl) rfl ?_
                        refine ops_eff' rfl (eff_lit sl64 rfl (sbld (cs := flat Nm.cs [⟨(r.text 256).2, ((r.text 256).1.text 256).1.attrs.2⟩]) [(.string ByteArray.empty), (.int .u32 0), (.int .u64 0), (.int .u32 0), (.int .u32 0), (.int .u32 0), (.int .u32 0), (.int .u32 0)] sl64 (by decide) (by kernel_rfl) rfl) rfl (by decide)) rfl ?_
                        rintro _ _ ⟨b92, rfl, rfl⟩
                        refine ops_eff' rfl (eff_appF (f := Nm.cs) (l2 := [⟨(r.text 256).2, ((r.text 256).1.text 256).1.attrs.2⟩]) 4 sl64 (.inl ⟨120, Try.underlying64⟩) rfl rfl rfl (by first | exact Src.flatv Nm.len Nm.one (Vw.pick 0 rfl Vw.row) | exact Src.flatv Nm.len Nm.one (Vw.pick 1 rfl Vw.row) | exact Src.flatv Nm.len Nm.one (Vw.pick 2 rfl Vw.row) | exact Src.flatv Nm.len Nm.one (Vw.pick 3 rfl Vw.row) | exact Src.flatv Nm.len Nm.one (Vw.pick 4 rfl Vw.row) | exact Src.flatv Nm.len Nm.one (Vw.pick 5 rfl Vw.row) | exact Src.flatv Nm.len Nm.one (Vw.pick 6 rfl Vw.row) | exact Src.flatv Nm.len Nm.one (Vw.pick 7 rfl Vw.row) | exact Src.flatv Nm.len Nm.one (Vw.pick 8 rfl Vw.row)) (by simp only [List.length_cons, List.length_nil]; omega) (by simp only [List.length_cons, List.length_nil]; omega)) rfl ?_
                        rintro _ _ ⟨p93, c93, rfl, hn93, rfl⟩
                        simp only [List.set_cons_zero, List.set_cons_succ]
                        refine ops_ro' rfl (ro_fieldAddr fa66_4 rfl) rfl ?_
                        refine ops_eff0 rfl (eff_store 3 sc64 rfl rfl rfl rfl (Nat.le_of_ble_eq_true rfl) (warm_zero _)) rfl ?_
                        rintro _ _ rfl
                        refine ops_nil ?_
                        refine InBlock_normal ?_
                        refine Then_normal ?_
                        refine wp_region' ?_
                        refine ops_ro' rfl (ro_move rfl) rfl ?_
                        refine ops_ro' rfl (ro_sub rfl rfl (show IntKind.u32.wrap ((n : Int) - 1) = ((n - 1 : Nat) : Int) from by rw [wrap_u32_mod]; omega)) rfl ?_
                        refine ops_ro' rfl (ro_assign rfl) rfl ?_
                        refine ops_nil ?_
                        refine Then_normal ?_
                        refine back (m - 1) (by omega) (kept ⟨n - 1, ((r.text 256).1.text 256).1.attrs.1, p93, c93, acc ++ [⟨(r.text 256).2, ((r.text 256).1.text 256).1.attrs.2⟩], ⟨by omega, by omega, by simp; omega, hlf.step (by omega) (by simp_all), on_attrs (R.on_text (R.on_text ho 256) 256)⟩, rfl, rfl⟩ ?_ ?_ ?_)
                        · exact (by repeat (first | exact Has.nil _ | refine Has.cons rfl ?_))
                        · exact (by repeat (first | exact Has.nil _ | refine Has.cons rfl ?_))
                        · exact (SubH.cons 3 rfl (SubH.cons 1 rfl (SubH.cons 2 rfl (SubH.cons 2 rfl (SubH.cons 2 rfl (SubH.nil _))))))
                      · simp only [Bool.and_eq_false_iff, decide_eq_false_iff_not, Bool.not_eq_false', decide_eq_true_eq] at hc78
                        refine wp_exit' ?_
                        refine Then_exit ?_
                        refine Then_exit ?_
                        refine InBlock_here ?_
                        refine InBlock_normal ?_
                        refine Then_normal ?_
                        refine over_cut (kept ⟨r, { Pc.zero with k := (kk : Int) - 100, ns := acc }, none, 0, np, nn, decide ((n2 : Int) ≤ 100), ⟨names_ok (by omega) e3 hlf (by first | (left; omega) | (right; left; omega) | (right; right; simp_all; done)), ho, by omega, by omega⟩, rfl, rfl⟩ ?_ ?_ ?_)
                        · exact (by repeat (first | exact Has.nil _ | refine Has.cons rfl ?_))
                        · exact (by repeat (first | exact Has.nil _ | refine Has.cons rfl ?_))
                        · exact (SubH.cons 0 rfl (SubH.cons 0 rfl (SubH.rown (SubH.cons 0 rfl (SubH.cons 0 rfl (SubH.cons 0 rfl (SubH.nil _)))))))
                    · replace hg72 := of_decide_eq_false hg72
                      refine ops_skip' rfl rfl ?_
                      refine ops_skip' rfl rfl ?_
                      refine ops_skip' rfl rfl ?_
                      refine ops_skip' rfl rfl ?_
                      refine ops_skip' rfl rfl ?_
                      refine ops_ro' rfl (ro_pick rfl rfl) rfl ?_
                      refine ops_nil ?_
                      refine Then_normal ?_
                      refine wp_condF rfl ?_
                      refine wp_exit' ?_
                      refine Then_exit ?_
                      refine Then_exit ?_
                      refine InBlock_here ?_
                      refine InBlock_normal ?_
                      refine Then_normal ?_
                      refine over_cut (kept ⟨r, { Pc.zero with k := (kk : Int) - 100, ns := acc }, none, 0, np, nn, decide ((n2 : Int) ≤ 100), ⟨names_ok (by omega) e3 hlf (by first | (left; omega) | (right; left; omega) | (right; right; simp_all; done)), ho, by omega, by omega⟩, rfl, rfl⟩ ?_ ?_ ?_)
                      · exact (by repeat (first | exact Has.nil _ | refine Has.cons rfl ?_))
                      · exact (by repeat (first | exact Has.nil _ | refine Has.cons rfl ?_))
                      · exact (SubH.cons 0 rfl (SubH.cons 0 rfl (SubH.rown (SubH.cons 0 rfl (SubH.cons 0 rfl (SubH.cons 0 rfl (SubH.nil _)))))))
                  · replace hg69 := of_decide_eq_false hg69
                    refine ops_skip' rfl rfl ?_
                    refine ops_ro' rfl (ro_pick rfl rfl) rfl ?_
                    refine ops_ro' rfl (ro_move (v := .bool false) rfl) rfl ?_
                    refine ops_skip' rfl rfl ?_
                    refine ops_skip' rfl rfl ?_
                    refine ops_skip' rfl rfl ?_
                    refine ops_skip' rfl rfl ?_
                    refine ops_skip' rfl rfl ?_
                    refine ops_ro' rfl (ro_pick rfl rfl) rfl ?_
                    refine ops_nil ?_
                    refine Then_normal ?_
                    refine wp_condF rfl ?_
                    refine wp_exit' ?_
                    refine Then_exit ?_
                    refine Then_exit ?_
                    refine InBlock_here ?_
                    refine InBlock_normal ?_
                    refine Then_normal ?_
                    refine over_cut (kept ⟨r, { Pc.zero with k := (kk : Int) - 100, ns := acc }, none, 0, np, nn, decide ((n2 : Int) ≤ 100), ⟨names_ok (by omega) e3 hlf (by first | (left; omega) | (right; left; omega) | (right; right; simp_all; done)), ho, by omega, by omega⟩, rfl, rfl⟩ ?_ ?_ ?_)
                    · exact (by repeat (first | exact Has.nil _ | refine Has.cons rfl ?_))
                    · exact (by repeat (first | exact Has.nil _ | refine Has.cons rfl ?_))
                    · exact (SubH.cons 0 rfl (SubH.cons 0 rfl (SubH.rown (SubH.cons 0 rfl (SubH.cons 0 rfl (SubH.cons 0 rfl (SubH.nil _)))))))
                · replace hc61 := of_decide_eq_false hc61
                  dsimp only at hc61
                  refine wp_seq' ?_
                  refine wp_region' ?_
                  refine ops_ro' rfl (ro_eql rfl rfl rfl) rfl ?_
                  refine ops_ro' rfl (ro_assign rfl) rfl ?_
                  refine ops_nil ?_
                  refine Then_normal ?_
                  refine wp_cond' rfl (fun hc95 => ?_) (fun hc95 => ?_)
                  · replace hc95 := of_decide_eq_true hc95
                    dsimp only at hc95
                    refine wp_region' ?_
                    refine ops_ro' rfl (ro_move rfl) rfl ?_
                    refine ops_eff' rfl (eff_callM (Pre := [_]) Try.call100 rfl rfl (by repeat (first | exact Split.nil _ | apply Split.cons 0 rfl | apply Split.cons 1 rfl | apply Split.cons 2 rfl | apply Split.cons 3 rfl | apply Split.cons 4 rfl | apply Split.cons 5 rfl | apply Split.cons 6 rfl | apply Split.cons 7 rfl | apply Split.cons 8 rfl | apply Split.cons 9 rfl | apply Split.cons 10 rfl | apply Split.cons 11 rfl)) (q14get b18 p c b r0 (by first | exact ⟨Vw.pick 0 rfl hi.vw, hi.cap, hi.len⟩ | exact ⟨Vw.pick 1 rfl hi.vw, hi.cap, hi.len⟩ | exact ⟨Vw.pick 2 rfl hi.vw, hi.cap, hi.len⟩ | exact ⟨Vw.pick 3 rfl hi.vw, hi.cap, hi.len⟩ | exact ⟨Vw.pick 4 rfl hi.vw, hi.cap, hi.len⟩ | exact ⟨Vw.pick 5 rfl hi.vw, hi.cap, hi.len⟩ | exact ⟨Vw.pick 6 rfl hi.vw, hi.cap, hi.len⟩ | exact ⟨Vw.pick 7 rfl hi.vw, hi.cap, hi.len⟩) o0)) rfl ?_
                    rintro _ H' ⟨_, ⟨rfl, rfl⟩, hH⟩
                    simp only [List.cons_append, List.nil_append, List.eraseIdx_cons_zero, List.eraseIdx_cons_succ, List.set_cons_zero, List.set_cons_succ] at hH
                    subst hH
                    refine ops_ro' rfl (ro_fieldAddr fa66_5 rfl) rfl ?_
                    refine ops_eff0 rfl (eff_storeA 1 ag54 rfl rfl rfl rfl rfl (Nat.le_of_ble_eq_true rfl) (warm_zero _)) rfl ?_
                    rintro _ _ rfl
                    refine ops_nil ?_
                    refine InBlock_normal ?_
                    refine Then_normal ?_
                    refine over_cut (kept ⟨r0.attrs.1, { Pc.zero with k := (kk : Int) - 100, at' := r0.attrs.2 }, none, 0, none, 0, true, ⟨⟨fun _ => by unfold decB; rw [if_neg (by omega), if_neg (by omega), if_neg (by omega), if_neg (by omega)], fun h => absurd rfl h⟩, on_attrs o0, by omega, by omega⟩, rfl, rfl⟩ ?_ ?_ ?_)
                    · exact (by repeat (first | exact Has.nil _ | refine Has.cons rfl ?_))
                    · exact (by repeat (first | exact Has.nil _ | refine Has.cons rfl ?_))
                    · exact (SubH.cons 1 rfl (SubH.cons 0 rfl (SubH.rown (SubH.rown (SubH.cons 0 rfl (SubH.cons 0 rfl (SubH.nil _)))))))
                  · replace hc95 := of_decide_eq_false hc95
                    dsimp only at hc95
                    exfalso; omega
        · rintro Δ LL ⟨r8, c8, dp, dn, np, nn, fn, ⟨⟨f8, f9⟩, o8, hk1, hk5⟩, rfl, rfl⟩
          simp only [List.cons_append, List.nil_append]
          refine wp_seq' ?_
          refine wp_seq' ?_
          refine wp_region' ?_
          refine ops_ro' rfl (ro_move rfl) rfl ?_
          refine ops_ro' rfl (ro_not rfl rfl) rfl ?_
          refine ops_split rfl rfl rfl (fun hg102 => ?_) (fun hg102 => ?_)
          · simp only [Bool.and_eq_true, decide_eq_true_eq, Bool.not_eq_true', decide_eq_false_iff_not, bne_iff_ne, ne_eq] at hg102
            refine ops_skip' rfl rfl ?_
            refine ops_skip' rfl rfl ?_
            refine ops_skip' rfl rfl ?_
            refine ops_ro' rfl (ro_pick rfl rfl) rfl ?_
            refine ops_nil ?_
            refine Then_normal ?_
            refine wp_condT rfl ?_
            refine wp_seq' ?_
            refine wp_region' ?_
            refine ops_ro' rfl (ro_move rfl) rfl ?_
            refine ops_ro' rfl (ro_build rfl (bld_struct (cs := Pc.zero.cs none 0 none 0) st66 rfl)) rfl ?_
            refine ops_ro' rfl (ro_assign rfl) rfl ?_
            refine ops_eff0 rfl (eff_storeA 4 ag66 rfl rfl rfl rfl rfl (Nat.le_of_ble_eq_true rfl) (warm_zero _)) rfl ?_
            rintro _ _ rfl
            refine ops_ro' rfl (ro_assign rfl) rfl ?_
            refine ops_nil ?_
            refine Then_normal ?_
            refine wp_ret' ?_
            refine Then_ret ?_
            refine' doneS_ret (resv3 rfl (rv_tmp rfl) (rv_cellA ag66 rfl (by first | exact RdN.of_pick 0 rfl rdn_all | exact RdN.of_pick 1 rfl rdn_all | exact RdN.of_pick 2 rfl rdn_all | exact RdN.of_pick 3 rfl rdn_all | exact RdN.of_pick 4 rfl rdn_all | exact RdN.of_pick 5 rfl rdn_all | exact RdN.of_pick 6 rfl rdn_all | exact RdN.of_pick 7 rfl rdn_all | exact RdN.of_pick 8 rfl rdn_all) rfl) (rv_tmp rfl)) ?_ ?_
            rotate_left 1
            have HX : decP b = (id, Pc.zero, 12) := by
              unfold decP
              rw [if_neg (by omega), e1]
              simp only
              rw [e2]
              simp only
              rw [if_neg (by omega), if_neg ?_]
              by_cases hf : fn = true
              · rw [← f8 hf]; simp_all
              · exact f9 hf
            rw [HX]
            exact ⟨_, ⟨none, 0, none, 0, rfl, rfl⟩, rfl⟩
            exact (SubH.rown (SubH.rown (SubH.cons 5 rfl (SubH.nil _))))
          · simp only [Bool.and_eq_false_iff, decide_eq_false_iff_not, Bool.not_eq_false', decide_eq_true_eq] at hg102
            refine ops_ro' rfl (ro_move rfl) rfl ?_
            refine ops_eff' rfl (eff_call Try.call85 rfl rfl (by repeat (first | exact Split.nil _ | apply Split.cons 0 rfl | apply Split.cons 1 rfl | apply Split.cons 2 rfl | apply Split.cons 3 rfl | apply Split.cons 4 rfl | apply Split.cons 5 rfl | apply Split.cons 6 rfl | apply Split.cons 7 rfl | apply Split.cons 8 rfl | apply Split.cons 9 rfl | apply Split.cons 10 rfl | apply Split.cons 11 rfl)) (qFine b18 p c b r8 o8 hb)) rfl ?_
            rintro _ H' ⟨_, ⟨rfl, rfl⟩, hH⟩
            simp only [List.cons_append, List.nil_append, List.eraseIdx_cons_zero, List.eraseIdx_cons_succ, List.set_cons_zero, List.set_cons_succ] at hH
            subst hH
            refine ops_ro' rfl (ro_not rfl rfl) rfl ?_
            refine ops_ro' rfl (ro_pick rfl rfl) rfl ?_
            refine ops_nil ?_
            refine Then_normal ?_
            refine wp_cond' rfl (fun hc106 => ?_) (fun hc106 => ?_)
            · simp only [Bool.and_eq_true, decide_eq_true_eq, Bool.not_eq_true', decide_eq_false_iff_not, bne_iff_ne, ne_eq] at hc106
              refine wp_seq' ?_
              refine wp_region' ?_
              refine ops_ro' rfl (ro_move rfl) rfl ?_
              refine ops_ro' rfl (ro_build rfl (bld_struct (cs := Pc.zero.cs none 0 none 0) st66 rfl)) rfl ?_
              refine ops_ro' rfl (ro_assign rfl) rfl ?_
              refine ops_eff0 rfl (eff_storeA 4 ag66 rfl rfl rfl rfl rfl (Nat.le_of_ble_eq_true rfl) (warm_zero _)) rfl ?_
              rintro _ _ rfl
              refine ops_ro' rfl (ro_assign rfl) rfl ?_
              refine ops_nil ?_
              refine Then_normal ?_
              refine wp_ret' ?_
              refine Then_ret ?_
              refine' doneS_ret (resv3 rfl (rv_tmp rfl) (rv_cellA ag66 rfl (by first | exact RdN.of_pick 0 rfl rdn_all | exact RdN.of_pick 1 rfl rdn_all | exact RdN.of_pick 2 rfl rdn_all | exact RdN.of_pick 3 rfl rdn_all | exact RdN.of_pick 4 rfl rdn_all | exact RdN.of_pick 5 rfl rdn_all | exact RdN.of_pick 6 rfl rdn_all | exact RdN.of_pick 7 rfl rdn_all | exact RdN.of_pick 8 rfl rdn_all) rfl) (rv_tmp rfl)) ?_ ?_
              rotate_left 1
              have HX : decP b = (id, Pc.zero, 12) := by
                unfold decP
                rw [if_neg (by omega), e1]
                simp only
                rw [e2]
                simp only
                rw [if_neg (by omega), if_neg ?_]
                by_cases hf : fn = true
                · rw [← f8 hf]; simp_all
                · exact f9 hf
              rw [HX]
              exact ⟨_, ⟨none, 0, none, 0, rfl, rfl⟩, rfl⟩
              exact (SubH.rown (SubH.rown (SubH.cons 5 rfl (SubH.nil _))))
            · simp only [Bool.and_eq_false_iff, decide_eq_false_iff_not, Bool.not_eq_false', decide_eq_true_eq] at hc106
              refine wp_skip' ?_
              refine Then_normal ?_
              refine wp_seq' ?_
              refine wp_draw 3 (by kernel_rfl) (Split.all _) ?_
              refine any_ro' (i := 0) (by kernel_rfl) rfl rfl (ro_move rfl) rfl (fun _ _ _ h => h) ?_
              refine any_ro' (i := 1) (by kernel_rfl) rfl rfl (ro_loadA ag66 rfl (RdN.of_pick 1 rfl rdn_all) rfl) rfl (fun _ _ _ h => h) ?_
              refine any_ro' (i := 2) (by kernel_rfl) rfl rfl (ro_assign rfl) rfl (fun _ _ _ h => h) ?_
              refine any_unlock (m' := 5) (L' := []) (by kernel_rfl) unlock ?_
              simp only [List.cons_append, List.nil_append, List.append_nil]
              refine any_eff0 (i := 3) (by kernel_rfl) rfl rfl (eff_storeA 4 ag66 rfl rfl rfl rfl rfl (Nat.le_of_ble_eq_true rfl) (warm_zero _)) rfl ?_
              rintro _ _ rfl
              refine any_ro' (i := 4) (by kernel_rfl) rfl rfl (ro_assign rfl) rfl (fun _ _ _ h => h) ?_
              refine any_doneH (by kernel_rfl) ?_
              refine Then_normal ?_
              refine wp_ret' ?_
              refine' doneS_ret (resv3 rfl (rv_tmp rfl) (rv_cellA ag66 rfl (by first | exact RdN.of_pick 0 rfl rdn_all | exact RdN.of_pick 1 rfl rdn_all | exact RdN.of_pick 2 rfl rdn_all | exact RdN.of_pick 3 rfl rdn_all | exact RdN.of_pick 4 rfl rdn_all | exact RdN.of_pick 5 rfl rdn_all | exact RdN.of_pick 6 rfl rdn_all | exact RdN.of_pick 7 rfl rdn_all | exact RdN.of_pick 8 rfl rdn_all) rfl) (rv_tmp rfl)) ?_ ?_
              rotate_left 1
              have HX : decP b = (id, c8, 0) := by
                unfold decP
                rw [if_neg (by omega), e1]
                simp only
                rw [e2]
                simp only
                have hf : fn = true := by simp_all
                rw [if_neg (by omega), ← f8 hf]
                simp only
                rw [if_pos (by simp_all)]
              rw [HX]
              exact ⟨_, ⟨dp, dn, np, nn, rfl, rfl⟩, rfl⟩
              exact (SubH.cons 2 rfl (SubH.cons 2 rfl (SubH.cons 3 rfl (SubH.nil _))))

end Go.Proofs.Ytigaolglnnjnmaa
