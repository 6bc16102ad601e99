/-
  The walk of SftpBack.
-/
import Derived.Test.YtigaolglnnjnmaaSfK
import Derived.Test.YtigaolglnnjnmaaSfH
namespace Go.Proofs.Ytigaolglnnjnmaa
open Go.Sx
set_option linter.unusedVariables false
set_option linter.unusedSimpArgs false
set_option maxRecDepth 100000
set_option maxHeartbeats 4000000

theorem sftpback_run (V : HProp) (id : Nat) (hid : id < 4294967296) (q : Rc) (hqo : q.Ok) (dp : Option Addr) (dn : Nat) (hq : Vw V (.slice dp q.da.length dn) q.da.length (cel q.da)) (hqc : q.da.length ≤ dn) (c : Pc) (ep : Option Addr) (en : Nat) (np : Option Addr) (nn : Nat) (hk : c.Ok V ep en np nn) (hkc : c.d.length ≤ en) :
    Tri Try.prog 12 [.int .u32 (id : Int), q.v dp dn, c.v ep en np nn] [V] (fun v H' => v = .bool true ∧ H' = [V]) := by
  refine tri_of_wpS Try.func12 rfl Try.ntmps12 (by simp) ?_
  refine wp_seq' ?_
  refine wp_region' ?_
  refine ops_eff' rfl (eff_box rfl) rfl ?_
  rintro _ _ ⟨b4, rfl, rfl⟩
  refine ops_eff' rfl (eff_box rfl) rfl ?_
  rintro _ _ ⟨b5, rfl, rfl⟩
  refine ops_ro' rfl (ro_assign rfl) rfl ?_
  refine ops_nil ?_
  refine Then_normal ?_
  refine wp_seq' ?_
  refine wp_region' ?_
  refine ops_ro' rfl (ro_move rfl) rfl ?_
  refine ops_ro' rfl (ro_loadA ag56 rfl (RdN.of_pick 1 rfl rdn_all) rfl) rfl ?_
  refine ops_eff' rfl (eff_call Try.call33 rfl rfl (by repeat (first | exact Split.nil _ | apply Split.cons 0 rfl | apply Split.cons 1 rfl | apply Split.cons 2 rfl | apply Split.cons 3 rfl | apply Split.cons 4 rfl | apply Split.cons 5 rfl | apply Split.cons 6 rfl | apply Split.cons 7 rfl | apply Split.cons 8 rfl | apply Split.cons 9 rfl | apply Split.cons 10 rfl | apply Split.cons 11 rfl)) (kShort_spec V q dp dn hq hqc)) rfl ?_
  rintro _ H' ⟨_, ⟨dp2, dn2, rfl, hq2, hqc2, rfl⟩, hH⟩
  simp only [List.cons_append, List.nil_append, List.eraseIdx_cons_zero, List.eraseIdx_cons_succ, List.set_cons_zero, List.set_cons_succ] at hH
  subst hH
  refine ops_eff' rfl (eff_callM (Pre := []) Try.call29 rfl rfl (Split.nil _) (sfEnc_spec _ id hid (shortQ q) (shortQ_ok hqo) dp2 dn2 (by first | exact (Vw.pick 0 rfl hq2) | exact (Vw.pick 1 rfl hq2) | exact (Vw.pick 2 rfl hq2) | exact (Vw.pick 3 rfl hq2) | exact (Vw.pick 4 rfl hq2) | exact (Vw.pick 5 rfl hq2) | exact (Vw.pick 6 rfl hq2) | exact (Vw.pick 7 rfl hq2) | exact (Vw.pick 8 rfl hq2) | exact (Vw.pick 0 rfl hc2) | exact (Vw.pick 1 rfl hc2) | exact (Vw.pick 2 rfl hc2) | exact (Vw.pick 3 rfl hc2) | exact (Vw.pick 4 rfl hc2) | exact (Vw.pick 5 rfl hc2) | exact (Vw.pick 6 rfl hc2) | exact (Vw.pick 7 rfl hc2) | exact (Vw.pick 8 rfl hc2) | exact Vw.pick 0 rfl Vw.row | exact Vw.pick 1 rfl Vw.row | exact Vw.pick 2 rfl Vw.row | exact Vw.pick 3 rfl Vw.row | exact Vw.pick 4 rfl Vw.row | exact Vw.pick 5 rfl Vw.row | exact Vw.pick 6 rfl Vw.row | exact Vw.pick 7 rfl Vw.row | exact Vw.pick 8 rfl Vw.row | exact Vw.nil _ | exact Vw.empty _ _))) rfl ?_
  rintro _ H' ⟨_, ⟨p25, n25, rfl, rfl⟩, hH⟩
  simp only [List.cons_append, List.nil_append, List.eraseIdx_cons_zero, List.eraseIdx_cons_succ, List.set_cons_zero, List.set_cons_succ] at hH
  subst hH
  have hbq := back_q hid hqo
  generalize encB (axOf (shortQ q).k) id (shortQ q) = b at *
  generalize encE (axOf (shortQ q).k) (shortQ q) = e at *
  refine ops_ro' rfl (ro_move rfl) rfl ?_
  refine ops_ro' rfl (ro_extract rfl rfl) rfl ?_
  refine ops_ro' rfl (ro_extract rfl rfl) rfl ?_
  refine ops_ro' rfl (ro_assign rfl) rfl ?_
  refine ops_ro' rfl (ro_assign rfl) rfl ?_
  refine ops_nil ?_
  refine Then_normal ?_
  refine wp_cutK 1009 (fun Δ LL => Δ = [] ∧ LL = [own b4 (.cells (q.cs dp dn).toArray 56 (0, 0)), own b5 (.cells (c.cs ep en np nn).toArray 66 (0, 0)), V]) (Has.cons (k := 0) rfl (Has.cons (k := 5) rfl (Has.nil _))) ?_ ?_
  · refine wp_seq' ?_
    refine wp_region' ?_
    refine ops_ro' rfl (ro_move rfl) rfl ?_
    refine ops_ro' rfl (ro_eql rfl rfl rfl) rfl ?_
    refine ops_nil ?_
    refine Then_normal ?_
    refine wp_cond' rfl (fun hc29 => ?_) (fun hc29 => ?_)
    · replace hc29 := of_decide_eq_true hc29
      refine wp_seq' ?_
      obtain ⟨x, hx, xk, xE, xB, xO, x18, x6, x3, bl⟩ := hbq (by omega)
      refine wp_region' ?_
      refine ops_ro' rfl (ro_move rfl) rfl ?_
      refine ops_eff' rfl (eff_callM (Pre := []) Try.call28 rfl rfl (Split.nil _) (sfDec_K _ p25 n25 b (by first | exact (Vw.pick 0 rfl hq2) | exact (Vw.pick 1 rfl hq2) | exact (Vw.pick 2 rfl hq2) | exact (Vw.pick 3 rfl hq2) | exact (Vw.pick 4 rfl hq2) | exact (Vw.pick 5 rfl hq2) | exact (Vw.pick 6 rfl hq2) | exact (Vw.pick 7 rfl hq2) | exact (Vw.pick 8 rfl hq2) | exact (Vw.pick 0 rfl hc2) | exact (Vw.pick 1 rfl hc2) | exact (Vw.pick 2 rfl hc2) | exact (Vw.pick 3 rfl hc2) | exact (Vw.pick 4 rfl hc2) | exact (Vw.pick 5 rfl hc2) | exact (Vw.pick 6 rfl hc2) | exact (Vw.pick 7 rfl hc2) | exact (Vw.pick 8 rfl hc2) | exact Vw.pick 0 rfl Vw.row | exact Vw.pick 1 rfl Vw.row | exact Vw.pick 2 rfl Vw.row | exact Vw.pick 3 rfl Vw.row | exact Vw.pick 4 rfl Vw.row | exact Vw.pick 5 rfl Vw.row | exact Vw.pick 6 rfl Vw.row | exact Vw.pick 7 rfl Vw.row | exact Vw.pick 8 rfl Vw.row | exact Vw.nil _ | exact Vw.empty _ _) (by omega))) rfl ?_
      rintro _ H' ⟨_, ⟨dp3, dn3, rfl, rfl⟩, hH⟩
      simp only [List.cons_append, List.nil_append, List.eraseIdx_cons_zero, List.eraseIdx_cons_succ, List.set_cons_zero, List.set_cons_succ] at hH
      subst hH
      rw [hx]
      dsimp only
      refine ops_ro' rfl (ro_move rfl) rfl ?_
      refine ops_ro' rfl (ro_extract rfl rfl) rfl ?_
      refine ops_ro' rfl (ro_extract rfl rfl) rfl ?_
      refine ops_ro' rfl (ro_extract rfl rfl) rfl ?_
      refine ops_eff' rfl (eff_alloc z56) rfl ?_
      rintro _ _ ⟨b10, rfl, rfl⟩
      refine ops_ro' rfl (ro_assign rfl) rfl ?_
      refine ops_eff0 rfl (eff_storeA 0 ag56 rfl rfl rfl rfl rfl (Nat.le_of_ble_eq_true rfl) (warm_zero _)) rfl ?_
      rintro _ _ rfl
      refine ops_ro' rfl (ro_assign rfl) rfl ?_
      refine ops_nil ?_
      refine Then_normal ?_
      refine wp_seq' ?_
      refine wp_region' ?_
      refine ops_ro' rfl (ro_move rfl) rfl ?_
      refine ops_ro' rfl (ro_loadA ag56 rfl (RdN.of_pick 0 rfl rdn_all) rfl) rfl ?_
      refine ops_eff' rfl (eff_callM (Pre := []) Try.call29 rfl rfl (Split.nil _) (sfEnc_spec _ id hid x xO dp3 dn3 (by first | exact (Vw.pick 0 rfl hq2) | exact (Vw.pick 1 rfl hq2) | exact (Vw.pick 2 rfl hq2) | exact (Vw.pick 3 rfl hq2) | exact (Vw.pick 4 rfl hq2) | exact (Vw.pick 5 rfl hq2) | exact (Vw.pick 6 rfl hq2) | exact (Vw.pick 7 rfl hq2) | exact (Vw.pick 8 rfl hq2) | exact (Vw.pick 0 rfl hc2) | exact (Vw.pick 1 rfl hc2) | exact (Vw.pick 2 rfl hc2) | exact (Vw.pick 3 rfl hc2) | exact (Vw.pick 4 rfl hc2) | exact (Vw.pick 5 rfl hc2) | exact (Vw.pick 6 rfl hc2) | exact (Vw.pick 7 rfl hc2) | exact (Vw.pick 8 rfl hc2) | exact Vw.pick 0 rfl Vw.row | exact Vw.pick 1 rfl Vw.row | exact Vw.pick 2 rfl Vw.row | exact Vw.pick 3 rfl Vw.row | exact Vw.pick 4 rfl Vw.row | exact Vw.pick 5 rfl Vw.row | exact Vw.pick 6 rfl Vw.row | exact Vw.pick 7 rfl Vw.row | exact Vw.pick 8 rfl Vw.row | exact Vw.nil _ | exact Vw.empty _ _))) rfl ?_
      rintro _ H' ⟨_, ⟨p39, n39, rfl, rfl⟩, hH⟩
      simp only [List.cons_append, List.nil_append, List.eraseIdx_cons_zero, List.eraseIdx_cons_succ, List.set_cons_zero, List.set_cons_succ] at hH
      subst hH
      rw [xE, xB]
      refine ops_ro' rfl (ro_move rfl) rfl ?_
      refine ops_ro' rfl (ro_extract rfl rfl) rfl ?_
      refine ops_ro' rfl (ro_extract rfl rfl) rfl ?_
      refine ops_ro' rfl (ro_assign rfl) rfl ?_
      refine ops_ro' rfl (ro_assign rfl) rfl ?_
      refine ops_nil ?_
      refine Then_normal ?_
      refine wp_seq' ?_
      refine wp_seq' ?_
      refine wp_region' ?_
      refine ops_ro' rfl (ro_move rfl) rfl ?_
      refine ops_ro' rfl (ro_neq rfl rfl (decide_eq_false (by omega))) rfl ?_
      refine ops_ro' rfl (ro_move (v := .bool false) rfl) rfl ?_
      refine ops_ro' rfl (ro_move rfl) rfl ?_
      refine ops_ro' rfl (ro_neq rfl rfl (decide_eq_false (by omega))) rfl ?_
      refine ops_ro' rfl (ro_pick rfl rfl) rfl ?_
      refine ops_ro' rfl (ro_move (v := .bool false) rfl) rfl ?_
      refine ops_ro' rfl (ro_move rfl) rfl ?_
      refine ops_ro' rfl (ro_move rfl) rfl ?_
      refine ops_ro' rfl (ro_neq rfl rfl (decide_eq_false (by omega))) rfl ?_
      refine ops_ro' rfl (ro_pick rfl rfl) rfl ?_
      refine ops_ro' rfl (ro_move (v := .bool false) rfl) rfl ?_
      refine ops_ro' rfl (ro_fieldAddr fa56_0 rfl) rfl ?_
      refine ops_ro' rfl (ro_load sc3 rfl (Rd.pick 1 rfl (Rd.own rfl))) rfl ?_
      refine ops_ro' rfl (ro_fieldAddr fa56_0 rfl) rfl ?_
      refine ops_ro' rfl (ro_load sc3 rfl (Rd.pick 6 rfl (Rd.own rfl))) rfl ?_
      refine ops_ro' rfl (ro_neq rfl rfl (decide_eq_false (by omega))) rfl ?_
      refine ops_ro' rfl (ro_pick rfl rfl) rfl ?_
      refine ops_ro' rfl (ro_move (v := .bool false) rfl) rfl ?_
      refine ops_ro' rfl (ro_move rfl) rfl ?_
      refine ops_ro' rfl (ro_toStr Try.underlying32 Try.underlying5 Try.underlying9 rfl (Vw.pick 0 rfl Vw.row) rfl) rfl ?_
      refine ops_ro' rfl (ro_move rfl) rfl ?_
      refine ops_ro' rfl (ro_toStr Try.underlying32 Try.underlying5 Try.underlying9 rfl (Vw.pick 3 rfl Vw.row) rfl) rfl ?_
      refine ops_ro' rfl (ro_neqS rfl rfl (decide_eq_false (fun h => h rfl))) rfl ?_
      refine ops_ro' rfl (ro_pick rfl rfl) rfl ?_
      refine ops_nil ?_
      refine Then_normal ?_
      refine wp_condF rfl ?_
      refine wp_skip' ?_
      refine Then_normal ?_
      refine wp_seq' ?_
      refine wp_region' ?_
      refine ops_ro' rfl (ro_fieldAddr fa56_0 rfl) rfl ?_
      refine ops_ro' rfl (ro_load sc3 rfl (Rd.pick 6 rfl (Rd.own rfl))) rfl ?_
      refine ops_ro' rfl (ro_eql rfl rfl rfl) rfl ?_
      refine ops_split rfl rfl rfl (fun hg70 => ?_) (fun hg70 => ?_)
      · replace hg70 := of_decide_eq_true hg70
        obtain ⟨y1, y2⟩ := x18 (by omega)
        refine ops_ro' rfl (ro_fieldAddr fa56_1 rfl) rfl ?_
        refine ops_ro' rfl (ro_load sc9 rfl (Rd.pick 1 rfl (Rd.own rfl))) rfl ?_
        refine ops_ro' rfl (ro_fieldAddr fa56_1 rfl) rfl ?_
        refine ops_ro' rfl (ro_load sc9 rfl (Rd.pick 6 rfl (Rd.own rfl))) rfl ?_
        refine ops_ro' rfl (ro_neqS rfl rfl (decide_eq_false (fun h => h y1))) rfl ?_
        refine ops_ro' rfl (ro_move (v := .bool false) rfl) rfl ?_
        refine ops_ro' rfl (ro_fieldAddr fa56_2 rfl) rfl ?_
        refine ops_ro' rfl (ro_load sc9 rfl (Rd.pick 1 rfl (Rd.own rfl))) rfl ?_
        refine ops_ro' rfl (ro_fieldAddr fa56_2 rfl) rfl ?_
        refine ops_ro' rfl (ro_load sc9 rfl (Rd.pick 6 rfl (Rd.own rfl))) rfl ?_
        refine ops_ro' rfl (ro_neqS rfl rfl (decide_eq_false (fun h => h y2))) rfl ?_
        refine ops_ro' rfl (ro_pick rfl rfl) rfl ?_
        refine ops_ro' rfl (ro_pick rfl rfl) rfl ?_
        refine ops_ro' rfl (ro_move (v := .bool false) rfl) rfl ?_
        refine ops_ro' rfl (ro_fieldAddr fa56_0 rfl) rfl ?_
        refine ops_ro' rfl (ro_load sc3 rfl (Rd.pick 6 rfl (Rd.own rfl))) rfl ?_
        refine ops_ro' rfl (ro_eql rfl rfl (decide_eq_false (by omega))) rfl ?_
        refine ops_ro' rfl (ro_move (v := .bool false) rfl) rfl ?_
        refine ops_skip' rfl rfl ?_
        refine ops_skip' rfl rfl ?_
        refine ops_skip' rfl rfl ?_
        refine ops_skip' rfl rfl ?_
        refine ops_skip' rfl rfl ?_
        refine ops_skip' rfl rfl ?_
        refine ops_skip' rfl rfl ?_
        refine ops_skip' rfl rfl ?_
        refine ops_skip' rfl rfl ?_
        refine ops_skip' rfl rfl ?_
        refine ops_skip' rfl rfl ?_
        refine ops_skip' rfl rfl ?_
        refine ops_ro' rfl (ro_pick rfl rfl) rfl ?_
        refine ops_ro' rfl (ro_pick rfl rfl) rfl ?_
        refine ops_ro' rfl (ro_move (v := .bool false) rfl) rfl ?_
        refine ops_ro' rfl (ro_fieldAddr fa56_0 rfl) rfl ?_
        refine ops_ro' rfl (ro_load sc3 rfl (Rd.pick 6 rfl (Rd.own rfl))) rfl ?_
        refine ops_ro' rfl (ro_eql rfl rfl (decide_eq_false (by omega))) rfl ?_
        refine ops_ro' rfl (ro_move (v := .bool false) rfl) rfl ?_
        refine ops_skip' rfl rfl ?_
        refine ops_skip' rfl rfl ?_
        refine ops_skip' rfl rfl ?_
        refine ops_skip' rfl rfl ?_
        refine ops_skip' rfl rfl ?_
        refine ops_skip' rfl rfl ?_
        refine ops_skip' rfl rfl ?_
        refine ops_skip' rfl rfl ?_
        refine ops_skip' rfl rfl ?_
        refine ops_skip' rfl rfl ?_
        refine ops_skip' rfl rfl ?_
        refine ops_skip' rfl rfl ?_
        refine ops_ro' rfl (ro_pick rfl rfl) rfl ?_
        refine ops_ro' rfl (ro_pick rfl rfl) rfl ?_
        refine ops_nil ?_
        refine Then_normal ?_
        refine wp_condF rfl ?_
        refine wp_skip' ?_
        refine Then_normal ?_
        refine over_cut (kept ⟨rfl, rfl⟩ ?_ ?_ ?_)
        · exact (by repeat (first | exact Has.nil _ | refine Has.cons rfl ?_))
        · exact (by repeat (first | exact Has.nil _ | refine Has.cons rfl ?_))
        · exact (SubH.cons 6 rfl (SubH.cons 5 rfl (SubH.cons 4 rfl (SubH.nil _))))
      · replace hg70 := of_decide_eq_false hg70
        refine ops_skip' rfl rfl ?_
        refine ops_skip' rfl rfl ?_
        refine ops_skip' rfl rfl ?_
        refine ops_skip' rfl rfl ?_
        refine ops_skip' rfl rfl ?_
        refine ops_skip' rfl rfl ?_
        refine ops_skip' rfl rfl ?_
        refine ops_skip' rfl rfl ?_
        refine ops_skip' rfl rfl ?_
        refine ops_skip' rfl rfl ?_
        refine ops_skip' rfl rfl ?_
        refine ops_skip' rfl rfl ?_
        refine ops_ro' rfl (ro_pick rfl rfl) rfl ?_
        refine ops_ro' rfl (ro_move (v := .bool false) rfl) rfl ?_
        refine ops_ro' rfl (ro_fieldAddr fa56_0 rfl) rfl ?_
        refine ops_ro' rfl (ro_load sc3 rfl (Rd.pick 6 rfl (Rd.own rfl))) rfl ?_
        refine ops_ro' rfl (ro_eql rfl rfl rfl) rfl ?_
        refine ops_split rfl rfl rfl (fun hg88 => ?_) (fun hg88 => ?_)
        · replace hg88 := of_decide_eq_true hg88
          obtain ⟨y3, y4⟩ := x6 (by omega)
          refine ops_ro' rfl (ro_fieldAddr fa56_3 rfl) rfl ?_
          refine ops_ro' rfl (ro_load sc9 rfl (Rd.pick 1 rfl (Rd.own rfl))) rfl ?_
          refine ops_ro' rfl (ro_fieldAddr fa56_3 rfl) rfl ?_
          refine ops_ro' rfl (ro_load sc9 rfl (Rd.pick 6 rfl (Rd.own rfl))) rfl ?_
          refine ops_ro' rfl (ro_neqS rfl rfl (decide_eq_false (fun h => h y3))) rfl ?_
          refine ops_ro' rfl (ro_move (v := .bool false) rfl) rfl ?_
          refine ops_ro' rfl (ro_fieldAddr fa56_4 rfl) rfl ?_
          refine ops_ro' rfl (ro_load sc52 rfl (Rd.pick 1 rfl (Rd.own rfl))) rfl ?_
          refine ops_ro' rfl (ro_fieldAddr fa56_4 rfl) rfl ?_
          refine ops_ro' rfl (ro_load sc52 rfl (Rd.pick 6 rfl (Rd.own rfl))) rfl ?_
          refine ops_ro' rfl (ro_neq rfl rfl (decide_eq_false (by omega))) rfl ?_
          refine ops_ro' rfl (ro_pick rfl rfl) rfl ?_
          refine ops_ro' rfl (ro_pick rfl rfl) rfl ?_
          refine ops_ro' rfl (ro_pick rfl rfl) rfl ?_
          refine ops_ro' rfl (ro_move (v := .bool false) rfl) rfl ?_
          refine ops_ro' rfl (ro_fieldAddr fa56_0 rfl) rfl ?_
          refine ops_ro' rfl (ro_load sc3 rfl (Rd.pick 6 rfl (Rd.own rfl))) rfl ?_
          refine ops_ro' rfl (ro_eql rfl rfl (decide_eq_false (by omega))) rfl ?_
          refine ops_ro' rfl (ro_move (v := .bool false) rfl) rfl ?_
          refine ops_skip' rfl rfl ?_
          refine ops_skip' rfl rfl ?_
          refine ops_skip' rfl rfl ?_
          refine ops_skip' rfl rfl ?_
          refine ops_skip' rfl rfl ?_
          refine ops_skip' rfl rfl ?_
          refine ops_skip' rfl rfl ?_
          refine ops_skip' rfl rfl ?_
          refine ops_skip' rfl rfl ?_
          refine ops_skip' rfl rfl ?_
          refine ops_skip' rfl rfl ?_
          refine ops_skip' rfl rfl ?_
          refine ops_ro' rfl (ro_pick rfl rfl) rfl ?_
          refine ops_ro' rfl (ro_pick rfl rfl) rfl ?_
          refine ops_nil ?_
          refine Then_normal ?_
          refine wp_condF rfl ?_
          refine wp_skip' ?_
          refine Then_normal ?_
          refine over_cut (kept ⟨rfl, rfl⟩ ?_ ?_ ?_)
          · exact (by repeat (first | exact Has.nil _ | refine Has.cons rfl ?_))
          · exact (by repeat (first | exact Has.nil _ | refine Has.cons rfl ?_))
          · exact (SubH.cons 6 rfl (SubH.cons 5 rfl (SubH.cons 4 rfl (SubH.nil _))))
        · replace hg88 := of_decide_eq_false hg88
          refine ops_skip' rfl rfl ?_
          refine ops_skip' rfl rfl ?_
          refine ops_skip' rfl rfl ?_
          refine ops_skip' rfl rfl ?_
          refine ops_skip' rfl rfl ?_
          refine ops_skip' rfl rfl ?_
          refine ops_skip' rfl rfl ?_
          refine ops_skip' rfl rfl ?_
          refine ops_skip' rfl rfl ?_
          refine ops_skip' rfl rfl ?_
          refine ops_skip' rfl rfl ?_
          refine ops_skip' rfl rfl ?_
          refine ops_ro' rfl (ro_pick rfl rfl) rfl ?_
          refine ops_ro' rfl (ro_pick rfl rfl) rfl ?_
          refine ops_ro' rfl (ro_move (v := .bool false) rfl) rfl ?_
          refine ops_ro' rfl (ro_fieldAddr fa56_0 rfl) rfl ?_
          refine ops_ro' rfl (ro_load sc3 rfl (Rd.pick 6 rfl (Rd.own rfl))) rfl ?_
          refine ops_ro' rfl (ro_eql rfl rfl rfl) rfl ?_
          refine ops_split rfl rfl rfl (fun hg107 => ?_) (fun hg107 => ?_)
          · replace hg107 := of_decide_eq_true hg107
            obtain ⟨y5, y6⟩ := x3 (by omega)
            refine ops_ro' rfl (ro_fieldAddr fa56_7 rfl) rfl ?_
            refine ops_ro' rfl (ro_load sc40 rfl (Rd.pick 1 rfl (Rd.own rfl))) rfl ?_
            refine ops_ro' rfl (ro_fieldAddr fa56_7 rfl) rfl ?_
            refine ops_ro' rfl (ro_load sc40 rfl (Rd.pick 6 rfl (Rd.own rfl))) rfl ?_
            refine ops_ro' rfl (ro_neq rfl rfl (decide_eq_false (by omega))) rfl ?_
            refine ops_ro' rfl (ro_move (v := .bool false) rfl) rfl ?_
            refine ops_ro' rfl (ro_fieldAddr fa56_8 rfl) rfl ?_
            refine ops_ro' rfl (ro_loadA ag54 rfl (RdN.of_pick 1 rfl (rdn_sub 7)) rfl) rfl ?_
            refine ops_ro' rfl (ro_fieldAddr fa56_8 rfl) rfl ?_
            refine ops_ro' rfl (ro_loadA ag54 rfl (RdN.of_pick 6 rfl (rdn_sub 7)) rfl) rfl ?_
            refine ops_ro' rfl (ro_attrNe rfl rfl (c := false) (by simp [y6])) rfl ?_
            refine ops_ro' rfl (ro_pick rfl rfl) rfl ?_
            refine ops_ro' rfl (ro_pick rfl rfl) rfl ?_
            refine ops_ro' rfl (ro_pick rfl rfl) rfl ?_
            refine ops_nil ?_
            refine Then_normal ?_
            refine wp_condF rfl ?_
            refine wp_skip' ?_
            refine Then_normal ?_
            refine over_cut (kept ⟨rfl, rfl⟩ ?_ ?_ ?_)
            · exact (by repeat (first | exact Has.nil _ | refine Has.cons rfl ?_))
            · exact (by repeat (first | exact Has.nil _ | refine Has.cons rfl ?_))
            · exact (SubH.cons 6 rfl (SubH.cons 5 rfl (SubH.cons 4 rfl (SubH.nil _))))
          · replace hg107 := of_decide_eq_false hg107
            refine ops_skip' rfl rfl ?_
            refine ops_skip' rfl rfl ?_
            refine ops_skip' rfl rfl ?_
            refine ops_skip' rfl rfl ?_
            refine ops_skip' rfl rfl ?_
            refine ops_skip' rfl rfl ?_
            refine ops_skip' rfl rfl ?_
            refine ops_skip' rfl rfl ?_
            refine ops_skip' rfl rfl ?_
            refine ops_skip' rfl rfl ?_
            refine ops_skip' rfl rfl ?_
            refine ops_skip' rfl rfl ?_
            refine ops_ro' rfl (ro_pick rfl rfl) rfl ?_
            refine ops_ro' rfl (ro_pick rfl rfl) rfl ?_
            refine ops_nil ?_
            refine Then_normal ?_
            refine wp_condF rfl ?_
            refine wp_skip' ?_
            refine Then_normal ?_
            refine over_cut (kept ⟨rfl, rfl⟩ ?_ ?_ ?_)
            · exact (by repeat (first | exact Has.nil _ | refine Has.cons rfl ?_))
            · exact (by repeat (first | exact Has.nil _ | refine Has.cons rfl ?_))
            · exact (SubH.cons 6 rfl (SubH.cons 5 rfl (SubH.cons 4 rfl (SubH.nil _))))
    · replace hc29 := of_decide_eq_false hc29
      refine wp_skip' ?_
      refine Then_normal ?_
      refine over_cut (kept ⟨rfl, rfl⟩ ?_ ?_ ?_)
      · exact (by repeat (first | exact Has.nil _ | refine Has.cons rfl ?_))
      · exact (by repeat (first | exact Has.nil _ | refine Has.cons rfl ?_))
      · exact (SubH.cons 3 rfl (SubH.cons 2 rfl (SubH.cons 1 rfl (SubH.nil _))))
  · rintro Δ LL ⟨rfl, rfl⟩
    simp only [List.cons_append, List.nil_append]
    refine wp_seq' ?_
    refine wp_region' ?_
    refine ops_ro' rfl (ro_move rfl) rfl ?_
    refine ops_ro' rfl (ro_loadA ag66 rfl (RdN.of_pick 1 rfl rdn_all) rfl) rfl ?_
    refine ops_eff' rfl (eff_call Try.call35 rfl rfl (by repeat (first | exact Split.nil _ | apply Split.cons 0 rfl | apply Split.cons 1 rfl | apply Split.cons 2 rfl | apply Split.cons 3 rfl | apply Split.cons 4 rfl | apply Split.cons 5 rfl | apply Split.cons 6 rfl | apply Split.cons 7 rfl | apply Split.cons 8 rfl | apply Split.cons 9 rfl | apply Split.cons 10 rfl | apply Split.cons 11 rfl)) (short_spec V c ep en np nn hk hkc)) rfl ?_
    rintro _ H' ⟨_, ⟨ep2, en2, np2, nn2, rfl, hc2, rfl⟩, hH⟩
    simp only [List.cons_append, List.nil_append, List.eraseIdx_cons_zero, List.eraseIdx_cons_succ, List.set_cons_zero, List.set_cons_succ] at hH
    subst hH
    refine ops_eff' rfl (eff_callM (Pre := []) Try.call39 rfl rfl (Split.nil _) (sfEncP_spec _ id hid (shortP c) ep2 en2 np2 nn2 (shortP_ok hk (by first | exact (Vw.pick 0 rfl hq2) | exact (Vw.pick 1 rfl hq2) | exact (Vw.pick 2 rfl hq2) | exact (Vw.pick 3 rfl hq2) | exact (Vw.pick 4 rfl hq2) | exact (Vw.pick 5 rfl hq2) | exact (Vw.pick 6 rfl hq2) | exact (Vw.pick 7 rfl hq2) | exact (Vw.pick 8 rfl hq2) | exact (Vw.pick 0 rfl hc2) | exact (Vw.pick 1 rfl hc2) | exact (Vw.pick 2 rfl hc2) | exact (Vw.pick 3 rfl hc2) | exact (Vw.pick 4 rfl hc2) | exact (Vw.pick 5 rfl hc2) | exact (Vw.pick 6 rfl hc2) | exact (Vw.pick 7 rfl hc2) | exact (Vw.pick 8 rfl hc2) | exact Vw.pick 0 rfl Vw.row | exact Vw.pick 1 rfl Vw.row | exact Vw.pick 2 rfl Vw.row | exact Vw.pick 3 rfl Vw.row | exact Vw.pick 4 rfl Vw.row | exact Vw.pick 5 rfl Vw.row | exact Vw.pick 6 rfl Vw.row | exact Vw.pick 7 rfl Vw.row | exact Vw.pick 8 rfl Vw.row | exact Vw.nil _ | exact Vw.empty _ _) (by first | exact (Vw.pick 0 rfl hq2) | exact (Vw.pick 1 rfl hq2) | exact (Vw.pick 2 rfl hq2) | exact (Vw.pick 3 rfl hq2) | exact (Vw.pick 4 rfl hq2) | exact (Vw.pick 5 rfl hq2) | exact (Vw.pick 6 rfl hq2) | exact (Vw.pick 7 rfl hq2) | exact (Vw.pick 8 rfl hq2) | exact (Vw.pick 0 rfl hc2) | exact (Vw.pick 1 rfl hc2) | exact (Vw.pick 2 rfl hc2) | exact (Vw.pick 3 rfl hc2) | exact (Vw.pick 4 rfl hc2) | exact (Vw.pick 5 rfl hc2) | exact (Vw.pick 6 rfl hc2) | exact (Vw.pick 7 rfl hc2) | exact (Vw.pick 8 rfl hc2) | exact Vw.pick 0 rfl Vw.row | exact Vw.pick 1 rfl Vw.row | exact Vw.pick 2 rfl Vw.row | exact Vw.pick 3 rfl Vw.row | exact Vw.pick 4 rfl Vw.row | exact Vw.pick 5 rfl Vw.row | exact Vw.pick 6 rfl Vw.row | exact Vw.pick 7 rfl Vw.row | exact Vw.pick 8 rfl Vw.row | exact Vw.nil _ | exact Vw.empty _ _)))) rfl ?_
    rintro _ H' ⟨_, ⟨p126, n126, rfl, rfl⟩, hH⟩
    simp only [List.cons_append, List.nil_append, List.eraseIdx_cons_zero, List.eraseIdx_cons_succ, List.set_cons_zero, List.set_cons_succ] at hH
    subst hH
    have hbp := back_p hid hk
    generalize encP id (shortP c) = d at *
    generalize fineE (shortP c) = e2 at *
    refine ops_ro' rfl (ro_move rfl) rfl ?_
    refine ops_ro' rfl (ro_extract rfl rfl) rfl ?_
    refine ops_ro' rfl (ro_extract rfl rfl) rfl ?_
    refine ops_ro' rfl (ro_assign rfl) rfl ?_
    refine ops_ro' rfl (ro_assign rfl) rfl ?_
    refine ops_nil ?_
    refine Then_normal ?_
    refine wp_seq' ?_
    refine wp_seq' ?_
    refine wp_region' ?_
    refine ops_ro' rfl (ro_move rfl) rfl ?_
    refine ops_ro' rfl (ro_eql rfl rfl rfl) rfl ?_
    refine ops_nil ?_
    refine Then_normal ?_
    refine wp_cond' rfl (fun hc130 => ?_) (fun hc130 => ?_)
    · replace hc130 := of_decide_eq_true hc130
      refine wp_seq' ?_
      obtain ⟨x, hx, xk, xE, xB, xA, xn, xl, xs, x1, x2, x4, dl⟩ := hbp (by omega)
      refine wp_region' ?_
      refine ops_ro' rfl (ro_move rfl) rfl ?_
      refine ops_eff' rfl (eff_callM (Pre := []) Try.call40 rfl rfl (Split.nil _) (sfDecP_K _ p126 n126 d (by first | exact (Vw.pick 0 rfl hq2) | exact (Vw.pick 1 rfl hq2) | exact (Vw.pick 2 rfl hq2) | exact (Vw.pick 3 rfl hq2) | exact (Vw.pick 4 rfl hq2) | exact (Vw.pick 5 rfl hq2) | exact (Vw.pick 6 rfl hq2) | exact (Vw.pick 7 rfl hq2) | exact (Vw.pick 8 rfl hq2) | exact (Vw.pick 0 rfl hc2) | exact (Vw.pick 1 rfl hc2) | exact (Vw.pick 2 rfl hc2) | exact (Vw.pick 3 rfl hc2) | exact (Vw.pick 4 rfl hc2) | exact (Vw.pick 5 rfl hc2) | exact (Vw.pick 6 rfl hc2) | exact (Vw.pick 7 rfl hc2) | exact (Vw.pick 8 rfl hc2) | exact Vw.pick 0 rfl Vw.row | exact Vw.pick 1 rfl Vw.row | exact Vw.pick 2 rfl Vw.row | exact Vw.pick 3 rfl Vw.row | exact Vw.pick 4 rfl Vw.row | exact Vw.pick 5 rfl Vw.row | exact Vw.pick 6 rfl Vw.row | exact Vw.pick 7 rfl Vw.row | exact Vw.pick 8 rfl Vw.row | exact Vw.nil _ | exact Vw.empty _ _) (by omega))) rfl ?_
      rintro _ H' ⟨_, ⟨dp3, dn3, np3, nn3, rfl, rfl⟩, hH⟩
      simp only [List.cons_append, List.nil_append, List.eraseIdx_cons_zero, List.eraseIdx_cons_succ, List.set_cons_zero, List.set_cons_succ] at hH
      subst hH
      rw [hx]
      dsimp only
      refine ops_ro' rfl (ro_move rfl) rfl ?_
      refine ops_ro' rfl (ro_extract rfl rfl) rfl ?_
      refine ops_ro' rfl (ro_extract rfl rfl) rfl ?_
      refine ops_ro' rfl (ro_extract rfl rfl) rfl ?_
      refine ops_eff' rfl (eff_alloc z66) rfl ?_
      rintro _ _ ⟨b17, rfl, rfl⟩
      refine ops_ro' rfl (ro_assign rfl) rfl ?_
      refine ops_eff0 rfl (eff_storeA 0 ag66 rfl rfl rfl rfl rfl (Nat.le_of_ble_eq_true rfl) (warm_zero _)) rfl ?_
      rintro _ _ rfl
      refine ops_ro' rfl (ro_assign rfl) rfl ?_
      refine ops_nil ?_
      refine Then_normal ?_
      refine wp_seq' ?_
      refine wp_region' ?_
      refine ops_ro' rfl (ro_move rfl) rfl ?_
      refine ops_ro' rfl (ro_loadA ag66 rfl (RdN.of_pick 0 rfl rdn_all) rfl) rfl ?_
      refine ops_eff' rfl (eff_callM (Pre := []) Try.call39 rfl rfl (Split.nil _) (sfEncP_spec _ id hid x dp3 dn3 np3 nn3 ⟨by have := hk.k; omega, xs, (by first | exact (Vw.pick 0 rfl hq2) | exact (Vw.pick 1 rfl hq2) | exact (Vw.pick 2 rfl hq2) | exact (Vw.pick 3 rfl hq2) | exact (Vw.pick 4 rfl hq2) | exact (Vw.pick 5 rfl hq2) | exact (Vw.pick 6 rfl hq2) | exact (Vw.pick 7 rfl hq2) | exact (Vw.pick 8 rfl hq2) | exact (Vw.pick 0 rfl hc2) | exact (Vw.pick 1 rfl hc2) | exact (Vw.pick 2 rfl hc2) | exact (Vw.pick 3 rfl hc2) | exact (Vw.pick 4 rfl hc2) | exact (Vw.pick 5 rfl hc2) | exact (Vw.pick 6 rfl hc2) | exact (Vw.pick 7 rfl hc2) | exact (Vw.pick 8 rfl hc2) | exact Vw.pick 0 rfl Vw.row | exact Vw.pick 1 rfl Vw.row | exact Vw.pick 2 rfl Vw.row | exact Vw.pick 3 rfl Vw.row | exact Vw.pick 4 rfl Vw.row | exact Vw.pick 5 rfl Vw.row | exact Vw.pick 6 rfl Vw.row | exact Vw.pick 7 rfl Vw.row | exact Vw.pick 8 rfl Vw.row | exact Vw.nil _ | exact Vw.empty _ _), (by first | exact (Vw.pick 0 rfl hq2) | exact (Vw.pick 1 rfl hq2) | exact (Vw.pick 2 rfl hq2) | exact (Vw.pick 3 rfl hq2) | exact (Vw.pick 4 rfl hq2) | exact (Vw.pick 5 rfl hq2) | exact (Vw.pick 6 rfl hq2) | exact (Vw.pick 7 rfl hq2) | exact (Vw.pick 8 rfl hq2) | exact (Vw.pick 0 rfl hc2) | exact (Vw.pick 1 rfl hc2) | exact (Vw.pick 2 rfl hc2) | exact (Vw.pick 3 rfl hc2) | exact (Vw.pick 4 rfl hc2) | exact (Vw.pick 5 rfl hc2) | exact (Vw.pick 6 rfl hc2) | exact (Vw.pick 7 rfl hc2) | exact (Vw.pick 8 rfl hc2) | exact Vw.pick 0 rfl Vw.row | exact Vw.pick 1 rfl Vw.row | exact Vw.pick 2 rfl Vw.row | exact Vw.pick 3 rfl Vw.row | exact Vw.pick 4 rfl Vw.row | exact Vw.pick 5 rfl Vw.row | exact Vw.pick 6 rfl Vw.row | exact Vw.pick 7 rfl Vw.row | exact Vw.pick 8 rfl Vw.row | exact Vw.nil _ | exact Vw.empty _ _), by omega, xn, xA⟩)) rfl ?_
      rintro _ H' ⟨_, ⟨p140, n140, rfl, rfl⟩, hH⟩
      simp only [List.cons_append, List.nil_append, List.eraseIdx_cons_zero, List.eraseIdx_cons_succ, List.set_cons_zero, List.set_cons_succ] at hH
      subst hH
      rw [xE, xB]
      refine ops_ro' rfl (ro_move rfl) rfl ?_
      refine ops_ro' rfl (ro_extract rfl rfl) rfl ?_
      refine ops_ro' rfl (ro_extract rfl rfl) rfl ?_
      refine ops_ro' rfl (ro_assign rfl) rfl ?_
      refine ops_ro' rfl (ro_assign rfl) rfl ?_
      refine ops_nil ?_
      refine Then_normal ?_
      refine wp_seq' ?_
      refine wp_seq' ?_
      refine wp_region' ?_
      refine ops_ro' rfl (ro_move rfl) rfl ?_
      refine ops_ro' rfl (ro_neq rfl rfl (decide_eq_false (by omega))) rfl ?_
      refine ops_ro' rfl (ro_move (v := .bool false) rfl) rfl ?_
      refine ops_ro' rfl (ro_move rfl) rfl ?_
      refine ops_ro' rfl (ro_neq rfl rfl (decide_eq_false (by omega))) rfl ?_
      refine ops_ro' rfl (ro_pick rfl rfl) rfl ?_
      refine ops_ro' rfl (ro_move (v := .bool false) rfl) rfl ?_
      refine ops_ro' rfl (ro_move rfl) rfl ?_
      refine ops_ro' rfl (ro_move rfl) rfl ?_
      refine ops_ro' rfl (ro_neq rfl rfl (decide_eq_false (by omega))) rfl ?_
      refine ops_ro' rfl (ro_pick rfl rfl) rfl ?_
      refine ops_ro' rfl (ro_move (v := .bool false) rfl) rfl ?_
      refine ops_ro' rfl (ro_fieldAddr fa66_0 rfl) rfl ?_
      refine ops_ro' rfl (ro_load sc3 rfl (Rd.pick 1 rfl (Rd.own rfl))) rfl ?_
      refine ops_ro' rfl (ro_fieldAddr fa66_0 rfl) rfl ?_
      refine ops_ro' rfl (ro_load sc3 rfl (Rd.pick 8 rfl (Rd.own rfl))) rfl ?_
      refine ops_ro' rfl (ro_neq rfl rfl (decide_eq_false (by omega))) rfl ?_
      refine ops_ro' rfl (ro_pick rfl rfl) rfl ?_
      refine ops_ro' rfl (ro_move (v := .bool false) rfl) rfl ?_
      refine ops_ro' rfl (ro_move rfl) rfl ?_
      refine ops_ro' rfl (ro_toStr Try.underlying32 Try.underlying5 Try.underlying9 rfl (Vw.pick 0 rfl Vw.row) rfl) rfl ?_
      refine ops_ro' rfl (ro_move rfl) rfl ?_
      refine ops_ro' rfl (ro_toStr Try.underlying32 Try.underlying5 Try.underlying9 rfl (Vw.pick 4 rfl Vw.row) rfl) rfl ?_
      refine ops_ro' rfl (ro_neqS rfl rfl (decide_eq_false (fun h => h rfl))) rfl ?_
      refine ops_ro' rfl (ro_pick rfl rfl) rfl ?_
      refine ops_nil ?_
      refine Then_normal ?_
      refine wp_condF rfl ?_
      refine wp_skip' ?_
      refine Then_normal ?_
      refine wp_seq' ?_
      refine wp_draw 36 (by kernel_rfl) (Split.cons 1 rfl (Split.cons 7 rfl (Split.nil _))) ?_
      refine any_ro' (i := 0) (by kernel_rfl) rfl rfl (ro_fieldAddr fa66_0 rfl) rfl (fun _ _ _ h => h) ?_
      refine any_ro' (i := 1) (by kernel_rfl) rfl rfl (ro_load sc3 rfl (Rd.pick 1 rfl (Rd.own rfl))) rfl (fun _ _ _ h => h) ?_
      refine any_ro' (i := 2) (by kernel_rfl) rfl rfl (ro_eql rfl rfl rfl) rfl (fun _ _ _ h => h) ?_
      refine any_split (i := 3) (by kernel_rfl) rfl rfl rfl rfl (fun _ _ _ h => h) (fun hg171 => ?_) (fun hg171 => ?_)
      · replace hg171 := of_decide_eq_true hg171
        have y8 := x1 (by omega)
        refine any_ro' (i := 4) (by kernel_rfl) rfl rfl (ro_fieldAddr fa66_1 rfl) rfl (fun _ _ _ h => h) ?_
        refine any_ro' (i := 5) (by kernel_rfl) rfl rfl (ro_load sc3 rfl (Rd.pick 0 rfl (Rd.own rfl))) rfl (fun _ _ _ h => h) ?_
        refine any_ro' (i := 6) (by kernel_rfl) rfl rfl (ro_fieldAddr fa66_1 rfl) rfl (fun _ _ _ h => h) ?_
        refine any_ro' (i := 7) (by kernel_rfl) rfl rfl (ro_load sc3 rfl (Rd.pick 1 rfl (Rd.own rfl))) rfl (fun _ _ _ h => h) ?_
        refine any_ro' (i := 8) (by kernel_rfl) rfl rfl (ro_neq rfl rfl (decide_eq_false (by omega))) rfl (fun _ _ _ h => h) ?_
        refine any_ro' (i := 9) (by kernel_rfl) rfl rfl (ro_pick rfl rfl) rfl (fun _ _ _ h => h) ?_
        refine any_ro' (i := 10) (by kernel_rfl) rfl rfl (ro_move (v := .bool false) rfl) rfl (fun _ _ _ h => h) ?_
        refine any_ro' (i := 11) (by kernel_rfl) rfl rfl (ro_fieldAddr fa66_0 rfl) rfl (fun _ _ _ h => h) ?_
        refine any_ro' (i := 12) (by kernel_rfl) rfl rfl (ro_load sc3 rfl (Rd.pick 1 rfl (Rd.own rfl))) rfl (fun _ _ _ h => h) ?_
        refine any_ro' (i := 13) (by kernel_rfl) rfl rfl (ro_eql rfl rfl (decide_eq_false (by omega))) rfl (fun _ _ _ h => h) ?_
        refine any_ro' (i := 14) (by kernel_rfl) rfl rfl (ro_move (v := .bool false) rfl) rfl (fun _ _ _ h => h) ?_
        refine any_skip' (i := 15) (by kernel_rfl) rfl rfl rfl (fun _ _ _ h => h) ?_
        refine any_skip' (i := 16) (by kernel_rfl) rfl rfl rfl (fun _ _ _ h => h) ?_
        refine any_skip' (i := 17) (by kernel_rfl) rfl rfl rfl (fun _ _ _ h => h) ?_
        refine any_skip' (i := 18) (by kernel_rfl) rfl rfl rfl (fun _ _ _ h => h) ?_
        refine any_skip' (i := 19) (by kernel_rfl) rfl rfl rfl (fun _ _ _ h => h) ?_
        refine any_ro' (i := 20) (by kernel_rfl) rfl rfl (ro_pick rfl rfl) rfl (fun _ _ _ h => h) ?_
        refine any_ro' (i := 21) (by kernel_rfl) rfl rfl (ro_pick rfl rfl) rfl (fun _ _ _ h => h) ?_
        refine any_ro' (i := 22) (by kernel_rfl) rfl rfl (ro_move (v := .bool false) rfl) rfl (fun _ _ _ h => h) ?_
        refine any_ro' (i := 23) (by kernel_rfl) rfl rfl (ro_fieldAddr fa66_0 rfl) rfl (fun _ _ _ h => h) ?_
        refine any_ro' (i := 24) (by kernel_rfl) rfl rfl (ro_load sc3 rfl (Rd.pick 1 rfl (Rd.own rfl))) rfl (fun _ _ _ h => h) ?_
        refine any_ro' (i := 25) (by kernel_rfl) rfl rfl (ro_eql rfl rfl (decide_eq_false (by omega))) rfl (fun _ _ _ h => h) ?_
        refine any_ro' (i := 26) (by kernel_rfl) rfl rfl (ro_move (v := .bool false) rfl) rfl (fun _ _ _ h => h) ?_
        refine any_skip' (i := 27) (by kernel_rfl) rfl rfl rfl (fun _ _ _ h => h) ?_
        refine any_skip' (i := 28) (by kernel_rfl) rfl rfl rfl (fun _ _ _ h => h) ?_
        refine any_skip' (i := 29) (by kernel_rfl) rfl rfl rfl (fun _ _ _ h => h) ?_
        refine any_skip' (i := 30) (by kernel_rfl) rfl rfl rfl (fun _ _ _ h => h) ?_
        refine any_skip' (i := 31) (by kernel_rfl) rfl rfl rfl (fun _ _ _ h => h) ?_
        try (have y9 := x4 (by omega); rw [y9])
        refine any_skip' (i := 32) (by kernel_rfl) rfl rfl rfl (fun _ _ _ h => h) ?_
        refine any_skip' (i := 33) (by kernel_rfl) rfl rfl rfl (fun _ _ _ h => h) ?_
        refine any_ro' (i := 34) (by kernel_rfl) rfl rfl (ro_pick rfl rfl) rfl (fun _ _ _ h => h) ?_
        refine any_ro' (i := 35) (by kernel_rfl) rfl rfl (ro_pick rfl rfl) rfl (fun _ _ _ h => h) ?_
        refine any_done (by kernel_rfl) ?_
        refine Then_normal ?_
        refine wp_condF rfl ?_
        refine wp_skip' ?_
        refine Then_normal ?_
        refine wp_seq' ?_
        refine wp_region' ?_
        refine ops_eff' rfl (eff_call Try.call30 rfl rfl (by repeat (first | exact Split.nil _ | apply Split.cons 0 rfl | apply Split.cons 1 rfl | apply Split.cons 2 rfl | apply Split.cons 3 rfl | apply Split.cons 4 rfl | apply Split.cons 5 rfl | apply Split.cons 6 rfl | apply Split.cons 7 rfl | apply Split.cons 8 rfl | apply Split.cons 9 rfl | apply Split.cons 10 rfl | apply Split.cons 11 rfl)) (known17_spec V)) rfl ?_
        rintro _ H' ⟨_, ⟨rfl, rfl⟩, hH⟩
        simp only [List.cons_append, List.nil_append, List.eraseIdx_cons_zero, List.eraseIdx_cons_succ, List.set_cons_zero, List.set_cons_succ] at hH
        subst hH
        refine ops_ro' rfl (ro_assign rfl) rfl ?_
        refine ops_nil ?_
        refine Then_normal ?_
        refine wp_ret' ?_
        refine' doneS_ret (res1 rfl rfl) ?_ ?_
        rotate_left 1
        exact ⟨rfl, rfl⟩
        exact (SubH.cons 0 rfl (SubH.nil _))
      · replace hg171 := of_decide_eq_false hg171
        refine any_skip' (i := 4) (by kernel_rfl) rfl rfl rfl (fun _ _ _ h => h) ?_
        refine any_skip' (i := 5) (by kernel_rfl) rfl rfl rfl (fun _ _ _ h => h) ?_
        refine any_skip' (i := 6) (by kernel_rfl) rfl rfl rfl (fun _ _ _ h => h) ?_
        refine any_skip' (i := 7) (by kernel_rfl) rfl rfl rfl (fun _ _ _ h => h) ?_
        refine any_skip' (i := 8) (by kernel_rfl) rfl rfl rfl (fun _ _ _ h => h) ?_
        refine any_ro' (i := 9) (by kernel_rfl) rfl rfl (ro_pick rfl rfl) rfl (fun _ _ _ h => h) ?_
        refine any_ro' (i := 10) (by kernel_rfl) rfl rfl (ro_move (v := .bool false) rfl) rfl (fun _ _ _ h => h) ?_
        refine any_ro' (i := 11) (by kernel_rfl) rfl rfl (ro_fieldAddr fa66_0 rfl) rfl (fun _ _ _ h => h) ?_
        refine any_ro' (i := 12) (by kernel_rfl) rfl rfl (ro_load sc3 rfl (Rd.pick 1 rfl (Rd.own rfl))) rfl (fun _ _ _ h => h) ?_
        refine any_ro' (i := 13) (by kernel_rfl) rfl rfl (ro_eql rfl rfl rfl) rfl (fun _ _ _ h => h) ?_
        refine any_split (i := 14) (by kernel_rfl) rfl rfl rfl rfl (fun _ _ _ h => h) (fun hg182 => ?_) (fun hg182 => ?_)
        · replace hg182 := of_decide_eq_true hg182
          have y7 := x2 (by omega)
          refine any_ro' (i := 15) (by kernel_rfl) rfl rfl (ro_fieldAddr fa66_2 rfl) rfl (fun _ _ _ h => h) ?_
          refine any_ro' (i := 16) (by kernel_rfl) rfl rfl (ro_load sc9 rfl (Rd.pick 0 rfl (Rd.own rfl))) rfl (fun _ _ _ h => h) ?_
          refine any_ro' (i := 17) (by kernel_rfl) rfl rfl (ro_fieldAddr fa66_2 rfl) rfl (fun _ _ _ h => h) ?_
          refine any_ro' (i := 18) (by kernel_rfl) rfl rfl (ro_load sc9 rfl (Rd.pick 1 rfl (Rd.own rfl))) rfl (fun _ _ _ h => h) ?_
          refine any_ro' (i := 19) (by kernel_rfl) rfl rfl (ro_neqS rfl rfl (decide_eq_false (fun h => h y7))) rfl (fun _ _ _ h => h) ?_
          refine any_ro' (i := 20) (by kernel_rfl) rfl rfl (ro_pick rfl rfl) rfl (fun _ _ _ h => h) ?_
          refine any_ro' (i := 21) (by kernel_rfl) rfl rfl (ro_pick rfl rfl) rfl (fun _ _ _ h => h) ?_
          refine any_ro' (i := 22) (by kernel_rfl) rfl rfl (ro_move (v := .bool false) rfl) rfl (fun _ _ _ h => h) ?_
          refine any_ro' (i := 23) (by kernel_rfl) rfl rfl (ro_fieldAddr fa66_0 rfl) rfl (fun _ _ _ h => h) ?_
          refine any_ro' (i := 24) (by kernel_rfl) rfl rfl (ro_load sc3 rfl (Rd.pick 1 rfl (Rd.own rfl))) rfl (fun _ _ _ h => h) ?_
          refine any_ro' (i := 25) (by kernel_rfl) rfl rfl (ro_eql rfl rfl (decide_eq_false (by omega))) rfl (fun _ _ _ h => h) ?_
          refine any_ro' (i := 26) (by kernel_rfl) rfl rfl (ro_move (v := .bool false) rfl) rfl (fun _ _ _ h => h) ?_
          refine any_skip' (i := 27) (by kernel_rfl) rfl rfl rfl (fun _ _ _ h => h) ?_
          refine any_skip' (i := 28) (by kernel_rfl) rfl rfl rfl (fun _ _ _ h => h) ?_
          refine any_skip' (i := 29) (by kernel_rfl) rfl rfl rfl (fun _ _ _ h => h) ?_
          refine any_skip' (i := 30) (by kernel_rfl) rfl rfl rfl (fun _ _ _ h => h) ?_
          refine any_skip' (i := 31) (by kernel_rfl) rfl rfl rfl (fun _ _ _ h => h) ?_
          try (have y9 := x4 (by omega); rw [y9])
          refine any_skip' (i := 32) (by kernel_rfl) rfl rfl rfl (fun _ _ _ h => h) ?_
          refine any_skip' (i := 33) (by kernel_rfl) rfl rfl rfl (fun _ _ _ h => h) ?_
          refine any_ro' (i := 34) (by kernel_rfl) rfl rfl (ro_pick rfl rfl) rfl (fun _ _ _ h => h) ?_
          refine any_ro' (i := 35) (by kernel_rfl) rfl rfl (ro_pick rfl rfl) rfl (fun _ _ _ h => h) ?_
          refine any_done (by kernel_rfl) ?_
          refine Then_normal ?_
          refine wp_condF rfl ?_
          refine wp_skip' ?_
          refine Then_normal ?_
          refine wp_seq' ?_
          refine wp_region' ?_
          refine ops_eff' rfl (eff_call Try.call30 rfl rfl (by repeat (first | exact Split.nil _ | apply Split.cons 0 rfl | apply Split.cons 1 rfl | apply Split.cons 2 rfl | apply Split.cons 3 rfl | apply Split.cons 4 rfl | apply Split.cons 5 rfl | apply Split.cons 6 rfl | apply Split.cons 7 rfl | apply Split.cons 8 rfl | apply Split.cons 9 rfl | apply Split.cons 10 rfl | apply Split.cons 11 rfl)) (known17_spec V)) rfl ?_
          rintro _ H' ⟨_, ⟨rfl, rfl⟩, hH⟩
          simp only [List.cons_append, List.nil_append, List.eraseIdx_cons_zero, List.eraseIdx_cons_succ, List.set_cons_zero, List.set_cons_succ] at hH
          subst hH
          refine ops_ro' rfl (ro_assign rfl) rfl ?_
          refine ops_nil ?_
          refine Then_normal ?_
          refine wp_ret' ?_
          refine' doneS_ret (res1 rfl rfl) ?_ ?_
          rotate_left 1
          exact ⟨rfl, rfl⟩
          exact (SubH.cons 0 rfl (SubH.nil _))
        · replace hg182 := of_decide_eq_false hg182
          refine any_skip' (i := 15) (by kernel_rfl) rfl rfl rfl (fun _ _ _ h => h) ?_
          refine any_skip' (i := 16) (by kernel_rfl) rfl rfl rfl (fun _ _ _ h => h) ?_
          refine any_skip' (i := 17) (by kernel_rfl) rfl rfl rfl (fun _ _ _ h => h) ?_
          refine any_skip' (i := 18) (by kernel_rfl) rfl rfl rfl (fun _ _ _ h => h) ?_
          refine any_skip' (i := 19) (by kernel_rfl) rfl rfl rfl (fun _ _ _ h => h) ?_
          refine any_ro' (i := 20) (by kernel_rfl) rfl rfl (ro_pick rfl rfl) rfl (fun _ _ _ h => h) ?_
          refine any_ro' (i := 21) (by kernel_rfl) rfl rfl (ro_pick rfl rfl) rfl (fun _ _ _ h => h) ?_
          refine any_ro' (i := 22) (by kernel_rfl) rfl rfl (ro_move (v := .bool false) rfl) rfl (fun _ _ _ h => h) ?_
          refine any_ro' (i := 23) (by kernel_rfl) rfl rfl (ro_fieldAddr fa66_0 rfl) rfl (fun _ _ _ h => h) ?_
          refine any_ro' (i := 24) (by kernel_rfl) rfl rfl (ro_load sc3 rfl (Rd.pick 1 rfl (Rd.own rfl))) rfl (fun _ _ _ h => h) ?_
          refine any_ro' (i := 25) (by kernel_rfl) rfl rfl (ro_eql rfl rfl rfl) rfl (fun _ _ _ h => h) ?_
          refine any_split (i := 26) (by kernel_rfl) rfl rfl rfl rfl (fun _ _ _ h => h) (fun hg194 => ?_) (fun hg194 => ?_)
          · replace hg194 := of_decide_eq_true hg194
            have y9 := x4 (by omega)
            refine any_ro' (i := 27) (by kernel_rfl) rfl rfl (ro_fieldAddr fa66_4 rfl) rfl (fun _ _ _ h => h) ?_
            refine any_ro' (i := 28) (by kernel_rfl) rfl rfl (ro_load sc64 rfl (Rd.pick 0 rfl (Rd.own rfl))) rfl (fun _ _ _ h => h) ?_
            refine any_ro' (i := 29) (by kernel_rfl) rfl rfl (ro_loadA ag66 rfl (RdN.of_pick 1 rfl rdn_all) rfl) rfl (fun _ _ _ h => h) ?_
            refine any_eff' (i := 30) (by kernel_rfl) rfl rfl (eff_call Try.call35 rfl rfl (by repeat (first | exact Split.nil _ | apply Split.cons 0 rfl | apply Split.cons 1 rfl | apply Split.cons 2 rfl | apply Split.cons 3 rfl | apply Split.cons 4 rfl | apply Split.cons 5 rfl | apply Split.cons 6 rfl | apply Split.cons 7 rfl | apply Split.cons 8 rfl | apply Split.cons 9 rfl | apply Split.cons 10 rfl | apply Split.cons 11 rfl)) (short_spec V c ep en np nn hk hkc)) rfl ?_
            rintro _ H' ⟨_, ⟨ep4, en4, np4, nn4, rfl, hc4, rfl⟩, hH⟩
            simp only [List.cons_append, List.nil_append, List.eraseIdx_cons_zero, List.eraseIdx_cons_succ, List.set_cons_zero, List.set_cons_succ] at hH
            subst hH
            refine any_ro' (i := 31) (by kernel_rfl) rfl rfl (ro_field rfl (part_ns (shortP c) ep4 en4 np4 nn4)) rfl (fun _ _ _ h => h) ?_
            try (have y9 := x4 (by omega); rw [y9])
            refine any_eff' (i := 32) (by kernel_rfl) rfl rfl (eff_callM (Pre := []) Try.call41 rfl rfl (Split.nil _) (knames_same _ (shortP c).ns np3 np4 nn3 nn4 (by first | exact (Vw.pick 0 rfl hq2) | exact (Vw.pick 1 rfl hq2) | exact (Vw.pick 2 rfl hq2) | exact (Vw.pick 3 rfl hq2) | exact (Vw.pick 4 rfl hq2) | exact (Vw.pick 5 rfl hq2) | exact (Vw.pick 6 rfl hq2) | exact (Vw.pick 7 rfl hq2) | exact (Vw.pick 8 rfl hq2) | exact (Vw.pick 0 rfl hc2) | exact (Vw.pick 1 rfl hc2) | exact (Vw.pick 2 rfl hc2) | exact (Vw.pick 3 rfl hc2) | exact (Vw.pick 4 rfl hc2) | exact (Vw.pick 5 rfl hc2) | exact (Vw.pick 6 rfl hc2) | exact (Vw.pick 7 rfl hc2) | exact (Vw.pick 8 rfl hc2) | exact Vw.pick 0 rfl Vw.row | exact Vw.pick 1 rfl Vw.row | exact Vw.pick 2 rfl Vw.row | exact Vw.pick 3 rfl Vw.row | exact Vw.pick 4 rfl Vw.row | exact Vw.pick 5 rfl Vw.row | exact Vw.pick 6 rfl Vw.row | exact Vw.pick 7 rfl Vw.row | exact Vw.pick 8 rfl Vw.row | exact Vw.nil _ | exact Vw.empty _ _) (by first | exact (Vw.pick 0 rfl hq2) | exact (Vw.pick 1 rfl hq2) | exact (Vw.pick 2 rfl hq2) | exact (Vw.pick 3 rfl hq2) | exact (Vw.pick 4 rfl hq2) | exact (Vw.pick 5 rfl hq2) | exact (Vw.pick 6 rfl hq2) | exact (Vw.pick 7 rfl hq2) | exact (Vw.pick 8 rfl hq2) | exact (Vw.pick 0 rfl hc2) | exact (Vw.pick 1 rfl hc2) | exact (Vw.pick 2 rfl hc2) | exact (Vw.pick 3 rfl hc2) | exact (Vw.pick 4 rfl hc2) | exact (Vw.pick 5 rfl hc2) | exact (Vw.pick 6 rfl hc2) | exact (Vw.pick 7 rfl hc2) | exact (Vw.pick 8 rfl hc2) | exact Vw.pick 0 rfl Vw.row | exact Vw.pick 1 rfl Vw.row | exact Vw.pick 2 rfl Vw.row | exact Vw.pick 3 rfl Vw.row | exact Vw.pick 4 rfl Vw.row | exact Vw.pick 5 rfl Vw.row | exact Vw.pick 6 rfl Vw.row | exact Vw.pick 7 rfl Vw.row | exact Vw.pick 8 rfl Vw.row | exact Vw.nil _ | exact Vw.empty _ _) (by have h9 := x4 (by omega); rw [← h9]; omega))) rfl ?_
            rintro _ H' ⟨_, ⟨rfl, rfl⟩, hH⟩
            simp only [List.cons_append, List.nil_append, List.eraseIdx_cons_zero, List.eraseIdx_cons_succ, List.set_cons_zero, List.set_cons_succ] at hH
            subst hH
            refine any_ro' (i := 33) (by kernel_rfl) rfl rfl (ro_not rfl rfl) rfl (fun _ _ _ h => h) ?_
            refine any_ro' (i := 34) (by kernel_rfl) rfl rfl (ro_pick rfl rfl) rfl (fun _ _ _ h => h) ?_
            refine any_ro' (i := 35) (by kernel_rfl) rfl rfl (ro_pick rfl rfl) rfl (fun _ _ _ h => h) ?_
            refine any_done (by kernel_rfl) ?_
            refine Then_normal ?_
            refine wp_condF rfl ?_
            refine wp_skip' ?_
            refine Then_normal ?_
            refine wp_seq' ?_
            refine wp_region' ?_
            refine ops_eff' rfl (eff_call Try.call30 rfl rfl (by repeat (first | exact Split.nil _ | apply Split.cons 0 rfl | apply Split.cons 1 rfl | apply Split.cons 2 rfl | apply Split.cons 3 rfl | apply Split.cons 4 rfl | apply Split.cons 5 rfl | apply Split.cons 6 rfl | apply Split.cons 7 rfl | apply Split.cons 8 rfl | apply Split.cons 9 rfl | apply Split.cons 10 rfl | apply Split.cons 11 rfl)) (known17_spec V)) rfl ?_
            rintro _ H' ⟨_, ⟨rfl, rfl⟩, hH⟩
            simp only [List.cons_append, List.nil_append, List.eraseIdx_cons_zero, List.eraseIdx_cons_succ, List.set_cons_zero, List.set_cons_succ] at hH
            subst hH
            refine ops_ro' rfl (ro_assign rfl) rfl ?_
            refine ops_nil ?_
            refine Then_normal ?_
            refine wp_ret' ?_
            refine' doneS_ret (res1 rfl rfl) ?_ ?_
            rotate_left 1
            exact ⟨rfl, rfl⟩
            exact (SubH.cons 0 rfl (SubH.nil _))
          · replace hg194 := of_decide_eq_false hg194
            refine any_skip' (i := 27) (by kernel_rfl) rfl rfl rfl (fun _ _ _ h => h) ?_
            refine any_skip' (i := 28) (by kernel_rfl) rfl rfl rfl (fun _ _ _ h => h) ?_
            refine any_skip' (i := 29) (by kernel_rfl) rfl rfl rfl (fun _ _ _ h => h) ?_
            refine any_skip' (i := 30) (by kernel_rfl) rfl rfl rfl (fun _ _ _ h => h) ?_
            refine any_skip' (i := 31) (by kernel_rfl) rfl rfl rfl (fun _ _ _ h => h) ?_
            try (have y9 := x4 (by omega); rw [y9])
            refine any_skip' (i := 32) (by kernel_rfl) rfl rfl rfl (fun _ _ _ h => h) ?_
            refine any_skip' (i := 33) (by kernel_rfl) rfl rfl rfl (fun _ _ _ h => h) ?_
            refine any_ro' (i := 34) (by kernel_rfl) rfl rfl (ro_pick rfl rfl) rfl (fun _ _ _ h => h) ?_
            refine any_ro' (i := 35) (by kernel_rfl) rfl rfl (ro_pick rfl rfl) rfl (fun _ _ _ h => h) ?_
            refine any_done (by kernel_rfl) ?_
            refine Then_normal ?_
            refine wp_condF rfl ?_
            refine wp_skip' ?_
            refine Then_normal ?_
            refine wp_seq' ?_
            refine wp_region' ?_
            refine ops_eff' rfl (eff_call Try.call30 rfl rfl (by repeat (first | exact Split.nil _ | apply Split.cons 0 rfl | apply Split.cons 1 rfl | apply Split.cons 2 rfl | apply Split.cons 3 rfl | apply Split.cons 4 rfl | apply Split.cons 5 rfl | apply Split.cons 6 rfl | apply Split.cons 7 rfl | apply Split.cons 8 rfl | apply Split.cons 9 rfl | apply Split.cons 10 rfl | apply Split.cons 11 rfl)) (known17_spec V)) rfl ?_
            rintro _ H' ⟨_, ⟨rfl, rfl⟩, hH⟩
            simp only [List.cons_append, List.nil_append, List.eraseIdx_cons_zero, List.eraseIdx_cons_succ, List.set_cons_zero, List.set_cons_succ] at hH
            subst hH
            refine ops_ro' rfl (ro_assign rfl) rfl ?_
            refine ops_nil ?_
            refine Then_normal ?_
            refine wp_ret' ?_
            refine' doneS_ret (res1 rfl rfl) ?_ ?_
            rotate_left 1
            exact ⟨rfl, rfl⟩
            exact (SubH.cons 0 rfl (SubH.nil _))
    · replace hc130 := of_decide_eq_false hc130
      refine wp_skip' ?_
      refine Then_normal ?_
      refine wp_seq' ?_
      refine wp_region' ?_
      refine ops_eff' rfl (eff_call Try.call30 rfl rfl (by repeat (first | exact Split.nil _ | apply Split.cons 0 rfl | apply Split.cons 1 rfl | apply Split.cons 2 rfl | apply Split.cons 3 rfl | apply Split.cons 4 rfl | apply Split.cons 5 rfl | apply Split.cons 6 rfl | apply Split.cons 7 rfl | apply Split.cons 8 rfl | apply Split.cons 9 rfl | apply Split.cons 10 rfl | apply Split.cons 11 rfl)) (known17_spec V)) rfl ?_
      rintro _ H' ⟨_, ⟨rfl, rfl⟩, hH⟩
      simp only [List.cons_append, List.nil_append, List.eraseIdx_cons_zero, List.eraseIdx_cons_succ, List.set_cons_zero, List.set_cons_succ] at hH
      subst hH
      refine ops_ro' rfl (ro_assign rfl) rfl ?_
      refine ops_nil ?_
      refine Then_normal ?_
      refine wp_ret' ?_
      refine' doneS_ret (res1 rfl rfl) ?_ ?_
      rotate_left 1
      exact ⟨rfl, rfl⟩
      exact (SubH.cons 0 rfl (SubH.nil _))

end Go.Proofs.Ytigaolglnnjnmaa
