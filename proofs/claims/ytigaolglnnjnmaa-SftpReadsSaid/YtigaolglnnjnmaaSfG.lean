/-
  Requests and replies, cut short.
-/
import Derived.Test.YtigaolglnnjnmaaSfF
import Derived.Test.YtigaolglnnjnmaaRd1
import Derived.Test.YtigaolglnnjnmaaSfC
namespace Go.Proofs.Ytigaolglnnjnmaa
open Go.Sx
set_option linter.unusedVariables false
set_option linter.unusedSimpArgs false
set_option maxRecDepth 100000
set_option maxHeartbeats 4000000

def shortQ (c : Rc) : Rc := { c with pa := c.pa.take 257, to := c.to.take 257, ha := c.ha.take 257, da := c.da.take 300 }
def shn (x : Nm) : Nm := { x with n := x.n.take 257 }
def shN (l : List Nm) : List Nm := l.map shn
def shortP (c : Pc) : Pc := { c with h := c.h.take 257, d := c.d.take 300, ns := shN (c.ns.take 6) }
theorem shN_succ {l : List Nm} {i : Nat} (hi : i < l.length) : shN (l.take (i + 1)) = shN (l.take i) ++ [shn l[i]] := by
  rw [shN, shN, List.take_succ_eq_append_getElem hi, List.map_append]; rfl
theorem shortQ_ok {c : Rc} (h : c.Ok) : (shortQ c).Ok := ⟨h.k, h.off, h.len, h.fl, h.at'⟩
theorem shortP_ok {V W : HProp} {c : Pc} {dp dp2 np np2 : Option Addr} {dn dn2 nn nn2 : Nat} (h : c.Ok V dp dn np nn) (h1 : Vw W (.slice dp2 (shortP c).d.length dn2) (shortP c).d.length (cel (shortP c).d)) (h2 : Vw W (.slice np2 (shortP c).ns.length nn2) (shortP c).ns.length (flat Nm.cs (shortP c).ns)) : (shortP c).Ok W dp2 dn2 np2 nn2 :=
  ⟨h.k, h.s, h1, h2, by have := List.length_take (i := 6) (l := c.ns); simp only [shortP, shN, List.length_map]; omega, fun x hx => by
    simp only [shortP, shN, List.mem_map] at hx
    obtain ⟨y, hy, rfl⟩ := hx
    exact h.no y (List.mem_of_mem_take hy), h.at'⟩


theorem kShort_spec (V : HProp) (c : Rc) (dp : Option Addr) (dn : Nat) (hV : Vw V (.slice dp c.da.length dn) c.da.length (cel c.da)) (hc : c.da.length ≤ dn) : Tri Try.prog 33 [c.v dp dn] [V] (fun v H' => ∃ dp2 dn2, v = (shortQ c).v dp2 dn2 ∧ Vw V (.slice dp2 (shortQ c).da.length dn2) (shortQ c).da.length (cel (shortQ c).da) ∧ (shortQ c).da.length ≤ dn2 ∧ H' = [V]) := by
  refine tri_of_wpS Try.func33 rfl Try.ntmps33 (by simp) ?_
  refine wp_seq' ?_
  refine wp_region' ?_
  refine ops_eff' rfl (eff_box rfl) rfl ?_
  rintro _ _ ⟨b1, rfl, rfl⟩
  refine ops_eff' rfl (eff_alloc z56) rfl ?_
  rintro _ _ ⟨b2, rfl, rfl⟩
  refine ops_nil ?_
  refine Then_normal ?_
  refine wp_seq' ?_
  refine wp_region' ?_
  refine ops_ro' rfl (ro_fieldAddr fa56_1 rfl) rfl ?_
  refine ops_ro' rfl (ro_load sc9 rfl (Rd.pick 1 rfl (Rd.own rfl))) rfl ?_
  refine ops_eff' rfl (eff_call Try.call25 rfl rfl (by repeat (first | exact Split.nil _ | apply Split.cons 0 rfl | apply Split.cons 1 rfl | apply Split.cons 2 rfl | apply Split.cons 3 rfl | apply Split.cons 4 rfl | apply Split.cons 5 rfl | apply Split.cons 6 rfl | apply Split.cons 7 rfl | apply Split.cons 8 rfl | apply Split.cons 9 rfl | apply Split.cons 10 rfl | apply Split.cons 11 rfl)) (kHead c.pa 257)) rfl ?_
  rintro _ H' ⟨_, ⟨rfl, rfl⟩, hH⟩
  simp only [List.cons_append, List.nil_append, List.eraseIdx_cons_zero, List.eraseIdx_cons_succ, List.set_cons_zero, List.set_cons_succ] at hH
  subst hH
  refine ops_ro' rfl (ro_fieldAddr fa56_1 rfl) rfl ?_
  refine ops_eff0 rfl (eff_store 1 sc9 rfl rfl rfl rfl (Nat.le_of_ble_eq_true rfl) (warm_zero _)) rfl ?_
  rintro _ _ rfl
  refine ops_nil ?_
  refine Then_normal ?_
  refine wp_seq' ?_
  refine wp_region' ?_
  refine ops_ro' rfl (ro_fieldAddr fa56_2 rfl) rfl ?_
  refine ops_ro' rfl (ro_load sc9 rfl (Rd.pick 1 rfl (Rd.own rfl))) rfl ?_
  refine ops_eff' rfl (eff_call Try.call25 rfl rfl (by repeat (first | exact Split.nil _ | apply Split.cons 0 rfl | apply Split.cons 1 rfl | apply Split.cons 2 rfl | apply Split.cons 3 rfl | apply Split.cons 4 rfl | apply Split.cons 5 rfl | apply Split.cons 6 rfl | apply Split.cons 7 rfl | apply Split.cons 8 rfl | apply Split.cons 9 rfl | apply Split.cons 10 rfl | apply Split.cons 11 rfl)) (kHead c.to 257)) rfl ?_
  rintro _ H' ⟨_, ⟨rfl, rfl⟩, hH⟩
  simp only [List.cons_append, List.nil_append, List.eraseIdx_cons_zero, List.eraseIdx_cons_succ, List.set_cons_zero, List.set_cons_succ] at hH
  subst hH
  refine ops_ro' rfl (ro_fieldAddr fa56_2 rfl) rfl ?_
  refine ops_eff0 rfl (eff_store 1 sc9 rfl rfl rfl rfl (Nat.le_of_ble_eq_true rfl) (warm_zero _)) rfl ?_
  rintro _ _ rfl
  refine ops_nil ?_
  refine Then_normal ?_
  refine wp_seq' ?_
  refine wp_region' ?_
  refine ops_ro' rfl (ro_fieldAddr fa56_3 rfl) rfl ?_
  refine ops_ro' rfl (ro_load sc9 rfl (Rd.pick 1 rfl (Rd.own rfl))) rfl ?_
  refine ops_eff' rfl (eff_call Try.call25 rfl rfl (by repeat (first | exact Split.nil _ | apply Split.cons 0 rfl | apply Split.cons 1 rfl | apply Split.cons 2 rfl | apply Split.cons 3 rfl | apply Split.cons 4 rfl | apply Split.cons 5 rfl | apply Split.cons 6 rfl | apply Split.cons 7 rfl | apply Split.cons 8 rfl | apply Split.cons 9 rfl | apply Split.cons 10 rfl | apply Split.cons 11 rfl)) (kHead c.ha 257)) rfl ?_
  rintro _ H' ⟨_, ⟨rfl, rfl⟩, hH⟩
  simp only [List.cons_append, List.nil_append, List.eraseIdx_cons_zero, List.eraseIdx_cons_succ, List.set_cons_zero, List.set_cons_succ] at hH
  subst hH
  refine ops_ro' rfl (ro_fieldAddr fa56_3 rfl) rfl ?_
  refine ops_eff0 rfl (eff_store 1 sc9 rfl rfl rfl rfl (Nat.le_of_ble_eq_true rfl) (warm_zero _)) rfl ?_
  rintro _ _ rfl
  refine ops_nil ?_
  refine Then_normal ?_
  refine wp_seq' ?_
  refine wp_region' ?_
  refine ops_ro' rfl (ro_fieldAddr fa56_6 rfl) rfl ?_
  refine ops_ro' rfl (ro_load sc32 rfl (Rd.pick 1 rfl (Rd.own rfl))) rfl ?_
  refine ops_eff' rfl (eff_call Try.call22 rfl rfl (by repeat (first | exact Split.nil _ | apply Split.cons 0 rfl | apply Split.cons 1 rfl | apply Split.cons 2 rfl | apply Split.cons 3 rfl | apply Split.cons 4 rfl | apply Split.cons 5 rfl | apply Split.cons 6 rfl | apply Split.cons 7 rfl | apply Split.cons 8 rfl | apply Split.cons 9 rfl | apply Split.cons 10 rfl | apply Split.cons 11 rfl)) (kCut V dp dn c.da 300 hV hc)) rfl ?_
  rintro _ H' ⟨_, ⟨_, ⟨p17, c17, rfl, hv17, hc17, rfl⟩, rfl⟩, hH⟩
  simp only [List.cons_append, List.nil_append, List.eraseIdx_cons_zero, List.eraseIdx_cons_succ, List.set_cons_zero, List.set_cons_succ] at hH
  subst hH
  refine ops_ro' rfl (ro_fieldAddr fa56_6 rfl) rfl ?_
  refine ops_eff0 rfl (eff_store 2 sc32 rfl rfl rfl rfl (Nat.le_of_ble_eq_true rfl) (warm_zero _)) rfl ?_
  rintro _ _ rfl
  refine ops_nil ?_
  refine Then_normal ?_
  refine wp_seq' ?_
  refine wp_region' ?_
  refine ops_ro' rfl (ro_loadA ag56 rfl (RdN.of_pick 2 rfl rdn_all) rfl) rfl ?_
  refine ops_eff0 rfl (eff_storeA 1 ag56 rfl rfl rfl rfl rfl (Nat.le_of_ble_eq_true rfl) (warm_zero _)) rfl ?_
  rintro _ _ rfl
  refine ops_nil ?_
  refine Then_normal ?_
  refine wp_ret' ?_
  refine' doneS_ret (resv1 rfl (rv_cellA ag56 rfl (by first | exact RdN.of_pick 0 rfl rdn_all | exact RdN.of_pick 1 rfl rdn_all | exact RdN.of_pick 2 rfl rdn_all | exact RdN.of_pick 3 rfl rdn_all | exact RdN.of_pick 4 rfl rdn_all | exact RdN.of_pick 5 rfl rdn_all) rfl)) ?_ ?_
  rotate_left 1
  exact ⟨p17, c17, rfl, hv17, hc17, rfl⟩
  exact (SubH.cons 0 rfl (SubH.nil _))
theorem short_spec (V : HProp) (c : Pc) (dp : Option Addr) (dn : Nat) (np : Option Addr) (nn : Nat) (hk : c.Ok V dp dn np nn) (hc : c.d.length ≤ dn) : Tri Try.prog 35 [c.v dp dn np nn] [V]
    (fun v H' => ∃ dp2 dn2 np2 nn2, v = (shortP c).v dp2 dn2 np2 nn2 ∧ Vw V (.slice dp2 (shortP c).d.length dn2) (shortP c).d.length (cel (shortP c).d) ∧ H' = [row 120 8 (.slice np2 (shortP c).ns.length nn2) (shortP c).ns.length (flat Nm.cs (shortP c).ns), V]) := by
  refine tri_of_wpS Try.func35 rfl Try.ntmps35 (by simp) ?_
  refine wp_seq' ?_
  refine wp_region' ?_
  refine ops_eff' rfl (eff_box rfl) rfl ?_
  rintro _ _ ⟨b1, rfl, rfl⟩
  refine ops_eff' rfl (eff_alloc z66) rfl ?_
  rintro _ _ ⟨b2, rfl, rfl⟩
  refine ops_nil ?_
  refine Then_normal ?_
  refine wp_seq' ?_
  refine wp_region' ?_
  refine ops_ro' rfl (ro_fieldAddr fa66_2 rfl) rfl ?_
  refine ops_ro' rfl (ro_load sc9 rfl (Rd.pick 1 rfl (Rd.own rfl))) rfl ?_
  refine ops_eff' rfl (eff_call Try.call25 rfl rfl (by repeat (first | exact Split.nil _ | apply Split.cons 0 rfl | apply Split.cons 1 rfl | apply Split.cons 2 rfl | apply Split.cons 3 rfl | apply Split.cons 4 rfl | apply Split.cons 5 rfl | apply Split.cons 6 rfl | apply Split.cons 7 rfl | apply Split.cons 8 rfl | apply Split.cons 9 rfl | apply Split.cons 10 rfl | apply Split.cons 11 rfl)) (kHead c.h 257)) rfl ?_
  rintro _ H' ⟨_, ⟨rfl, rfl⟩, hH⟩
  simp only [List.cons_append, List.nil_append, List.eraseIdx_cons_zero, List.eraseIdx_cons_succ, List.set_cons_zero, List.set_cons_succ] at hH
  subst hH
  refine ops_ro' rfl (ro_fieldAddr fa66_2 rfl) rfl ?_
  refine ops_eff0 rfl (eff_store 1 sc9 rfl rfl rfl rfl (Nat.le_of_ble_eq_true rfl) (warm_zero _)) rfl ?_
  rintro _ _ rfl
  refine ops_nil ?_
  refine Then_normal ?_
  refine wp_seq' ?_
  refine wp_region' ?_
  refine ops_ro' rfl (ro_fieldAddr fa66_3 rfl) rfl ?_
  refine ops_ro' rfl (ro_load sc32 rfl (Rd.pick 1 rfl (Rd.own rfl))) rfl ?_
  refine ops_eff' rfl (eff_call Try.call22 rfl rfl (by repeat (first | exact Split.nil _ | apply Split.cons 0 rfl | apply Split.cons 1 rfl | apply Split.cons 2 rfl | apply Split.cons 3 rfl | apply Split.cons 4 rfl | apply Split.cons 5 rfl | apply Split.cons 6 rfl | apply Split.cons 7 rfl | apply Split.cons 8 rfl | apply Split.cons 9 rfl | apply Split.cons 10 rfl | apply Split.cons 11 rfl)) (kCut V dp dn c.d 300 hk.d hc)) rfl ?_
  rintro _ H' ⟨_, ⟨_, ⟨p12, c12, rfl, hv12, hc12, rfl⟩, rfl⟩, hH⟩
  simp only [List.cons_append, List.nil_append, List.eraseIdx_cons_zero, List.eraseIdx_cons_succ, List.set_cons_zero, List.set_cons_succ] at hH
  subst hH
  refine ops_ro' rfl (ro_fieldAddr fa66_3 rfl) rfl ?_
  refine ops_eff0 rfl (eff_store 2 sc32 rfl rfl rfl rfl (Nat.le_of_ble_eq_true rfl) (warm_zero _)) rfl ?_
  rintro _ _ rfl
  refine ops_nil ?_
  refine Then_normal ?_
  refine wp_seq' ?_
  refine wp_region' ?_
  refine ops_ro' rfl (ro_assign rfl) rfl ?_
  refine ops_nil ?_
  refine Then_normal ?_
  refine wp_seq' ?_
  refine wp_seq' ?_
  refine wp_region' ?_
  refine ops_ro' rfl (ro_assign rfl) rfl ?_
  refine ops_nil ?_
  refine Then_normal ?_
  refine wp_block' ?_
  refine wp_loopK 5 (fun m Δ LL => ∃ (i : Nat) (p3 : Option Addr) (c3 : Nat), (i + m = c.ns.length ∧ i ≤ 6) ∧ Δ = [(3, .slice p3 (shN (c.ns.take i)).length c3), (4, .int .i64 (i : Nat))] ∧ LL = [own b1 (.cells (Pc.cs { c with h := c.h.take 257, d := c.d.take 300 } p12 c12 np nn).toArray 66 (0, 0)), own b2 (.cells (Pc.cs Pc.zero none 0 none 0).toArray 66 (0, 0)), row 120 8 (.slice p3 (shN (c.ns.take i)).length c3) (shN (c.ns.take i)).length (flat Nm.cs (shN (c.ns.take i))), V]) (m := c.ns.length) (Has.cons (k := 1) rfl (Has.cons (k := 2) rfl (Has.nil _))) (kept ⟨0, none, 0, ⟨by omega, by omega⟩, rfl, rfl⟩ (by repeat (first | exact Has.nil _ | refine Has.cons rfl ?_)) (by repeat (first | exact Has.nil _ | refine Has.cons rfl ?_)) (by repeat (first | exact SubH.nil _ | refine SubH.cons 0 rfl ?_ | refine SubH.cons 1 rfl ?_ | refine SubH.cons 2 rfl ?_ | refine SubH.cons 3 rfl ?_ | refine SubH.cons 4 rfl ?_ | refine SubH.cons 5 rfl ?_ | refine SubH.cons 6 rfl ?_ | refine SubH.cons 7 rfl ?_ | refine SubH.cons 8 rfl ?_ | refine SubH.cons 9 rfl ?_ | refine SubH.cons 10 rfl ?_ | refine SubH.cons 11 rfl ?_ | refine SubH.cons 12 rfl ?_ | refine SubH.cons 13 rfl ?_ | refine SubH.rown ?_))) ?_
  rintro m Δ LL ⟨i, p3, c3, ⟨hm, hi6⟩, rfl, rfl⟩
  simp only [List.cons_append, List.nil_append]
  refine wp_seq' ?_
  refine wp_seq' ?_
  refine wp_region' ?_
  refine ops_ro' rfl (ro_move rfl) rfl ?_
  refine ops_ro' rfl (ro_fieldAddr fa66_4 rfl) rfl ?_
  refine ops_ro' rfl (ro_load sc64 rfl (Rd.pick 0 rfl (Rd.own rfl))) rfl ?_
  refine ops_ro' rfl (ro_sliceLen Try.underlying64 rfl) rfl ?_
  refine ops_ro' rfl (ro_lss rfl rfl rfl) rfl ?_
  refine ops_split rfl rfl rfl (fun hg19 => ?_) (fun hg19 => ?_)
  · replace hg19 := of_decide_eq_true hg19
    dsimp only at hg19
    refine ops_ro' rfl (ro_move rfl) rfl ?_
    refine ops_ro' rfl (ro_lss rfl rfl rfl) rfl ?_
    refine ops_ro' rfl (ro_pick rfl rfl) rfl ?_
    refine ops_nil ?_
    refine Then_normal ?_
    refine wp_cond' rfl (fun hc22 => ?_) (fun hc22 => ?_)
    · replace hc22 := of_decide_eq_true hc22
      refine wp_skip' ?_
      refine Then_normal ?_
      refine wp_seq' ?_
      refine wp_block' ?_
      refine wp_seq' ?_
      have hi : i < c.ns.length := by omega
      have hul : (shN (c.ns.take i)).length = i := by simp [shN]; omega
      refine wp_know (fun w F s => vw_ptr (Vw.pick (H := [_, _, _, V]) 3 rfl hk.n) s (by omega)) ?_
      rintro ⟨b0, o0, rfl⟩
      have hkn := hk.n
      refine wp_region' ?_
      refine ops_ro' rfl (ro_fieldAddr fa66_4 rfl) rfl ?_
      refine ops_ro' rfl (ro_load sc64 rfl (Rd.pick 0 rfl (Rd.own rfl))) rfl ?_
      refine ops_ro' rfl (ro_move rfl) rfl ?_
      refine ops_ro' rfl (ro_indexSlice sl64 rfl rfl rfl (by omega)) rfl ?_
      refine ops_ro' rfl (ro_loadA ag120 rfl (RdN.of_pick 3 rfl ((RdN.elem (vw_rdn hkn) Nm.len (List.getElem?_eq_getElem hi)))) rfl) rfl ?_
      refine ops_eff' rfl (eff_alloc z120) rfl ?_
      rintro _ _ ⟨b5, rfl, rfl⟩
      refine ops_eff0 rfl (eff_storeA 0 ag120 rfl rfl rfl rfl rfl (Nat.le_of_ble_eq_true rfl) (warm_zero _)) rfl ?_
      rintro _ _ rfl
      refine ops_nil ?_
      refine Then_normal ?_
      refine wp_seq' ?_
      refine wp_region' ?_
      refine ops_ro' rfl (ro_fieldAddr fa120_0 rfl) rfl ?_
      refine ops_ro' rfl (ro_load sc9 rfl (Rd.pick 0 rfl (Rd.own rfl))) rfl ?_
      refine ops_eff' rfl (eff_call Try.call25 rfl rfl (by repeat (first | exact Split.nil _ | apply Split.cons 0 rfl | apply Split.cons 1 rfl | apply Split.cons 2 rfl | apply Split.cons 3 rfl | apply Split.cons 4 rfl | apply Split.cons 5 rfl | apply Split.cons 6 rfl | apply Split.cons 7 rfl | apply Split.cons 8 rfl | apply Split.cons 9 rfl | apply Split.cons 10 rfl | apply Split.cons 11 rfl)) (kHead c.ns[i].n 257)) rfl ?_
      rintro _ H' ⟨_, ⟨rfl, rfl⟩, hH⟩
      simp only [List.cons_append, List.nil_append, List.eraseIdx_cons_zero, List.eraseIdx_cons_succ, List.set_cons_zero, List.set_cons_succ] at hH
      subst hH
      refine ops_ro' rfl (ro_fieldAddr fa120_0 rfl) rfl ?_
      refine ops_eff0 rfl (eff_store 0 sc9 rfl rfl rfl rfl (Nat.le_of_ble_eq_true rfl) (warm_zero _)) rfl ?_
      rintro _ _ rfl
      refine ops_nil ?_
      refine Then_normal ?_
      refine wp_region' ?_
      refine ops_ro' rfl (ro_move rfl) rfl ?_
      refine ops_ro' rfl (ro_loadA ag120 rfl (RdN.of_pick 0 rfl rdn_all) rfl) rfl ?_
      refine ops_eff' rfl (eff_lit sl64 rfl (sbld (cs := flat Nm.cs [shn c.ns[i]]) [(.string ByteArray.empty), (.int .u32 0), (.int .u64 0), (.int .u32 0), (.int .u32 0), (.int .u32 0), (.int .u32 0), (.int .u32 0)] sl64 (by decide) (by kernel_rfl) rfl) rfl (by decide)) rfl ?_
      rintro _ _ ⟨b36, rfl, rfl⟩
      refine ops_eff' rfl (eff_appF (f := Nm.cs) (l2 := [shn c.ns[i]]) 4 sl64 (.inl ⟨120, Try.underlying64⟩) rfl rfl rfl (by first | exact Src.flatv Nm.len Nm.one (Vw.pick 0 rfl Vw.row) | exact Src.flatv Nm.len Nm.one (Vw.pick 1 rfl Vw.row) | exact Src.flatv Nm.len Nm.one (Vw.pick 2 rfl Vw.row) | exact Src.flatv Nm.len Nm.one (Vw.pick 3 rfl Vw.row) | exact Src.flatv Nm.len Nm.one (Vw.pick 4 rfl Vw.row) | exact Src.flatv Nm.len Nm.one (Vw.pick 5 rfl Vw.row) | exact Src.flatv Nm.len Nm.one (Vw.pick 6 rfl Vw.row)) (by simp only [List.length_cons, List.length_nil]; omega) (by simp only [List.length_cons, List.length_nil]; omega)) rfl ?_
      rintro _ _ ⟨p37, c37, rfl, hn37, rfl⟩
      simp only [List.set_cons_zero, List.set_cons_succ]
      rw [← shN_succ hi]
      refine ops_ro' rfl (ro_assign rfl) rfl ?_
      refine ops_nil ?_
      refine InBlock_normal ?_
      refine Then_normal ?_
      refine wp_region' ?_
      refine ops_ro' rfl (ro_move rfl) rfl ?_
      refine ops_ro' rfl (ro_add rfl rfl (wrap_inc (by omega))) rfl ?_
      refine ops_ro' rfl (ro_assign rfl) rfl ?_
      refine ops_nil ?_
      refine Then_normal ?_
      refine back (m - 1) (by omega) (kept ⟨i + 1, p37, c37, ⟨by omega, by omega⟩, rfl, rfl⟩ ?_ ?_ ?_)
      · exact (by repeat (first | exact Has.nil _ | refine Has.cons rfl ?_))
      · exact (by repeat (first | exact Has.nil _ | refine Has.cons rfl ?_))
      · exact (SubH.cons 2 rfl (SubH.cons 2 rfl (SubH.cons 2 rfl (SubH.cons 2 rfl (SubH.nil _)))))
    · replace hc22 := of_decide_eq_false hc22
      refine wp_exit' ?_
      refine Then_exit ?_
      refine Then_exit ?_
      refine InBlock_here ?_
      refine Then_normal ?_
      refine wp_seq' ?_
      have hx : c.ns.take i = c.ns.take 6 := by
        by_cases h : i = 6
        · rw [h]
        · rw [List.take_of_length_le (by omega), List.take_of_length_le (by omega)]
      rw [hx]
      refine wp_region' ?_
      refine ops_ro' rfl (ro_move rfl) rfl ?_
      refine ops_ro' rfl (ro_fieldAddr fa66_4 rfl) rfl ?_
      refine ops_eff0 rfl (eff_store 0 sc64 rfl rfl rfl rfl (Nat.le_of_ble_eq_true rfl) (warm_zero _)) rfl ?_
      rintro _ _ rfl
      refine ops_nil ?_
      refine Then_normal ?_
      refine wp_seq' ?_
      refine wp_region' ?_
      refine ops_ro' rfl (ro_loadA ag66 rfl (RdN.of_pick 0 rfl rdn_all) rfl) rfl ?_
      refine ops_eff0 rfl (eff_storeA 1 ag66 rfl rfl rfl rfl rfl (Nat.le_of_ble_eq_true rfl) (warm_zero _)) rfl ?_
      rintro _ _ rfl
      refine ops_nil ?_
      refine Then_normal ?_
      refine wp_ret' ?_
      refine' doneS_ret (resv1 rfl (rv_cellA ag66 rfl (by first | exact RdN.of_pick 0 rfl rdn_all | exact RdN.of_pick 1 rfl rdn_all | exact RdN.of_pick 2 rfl rdn_all | exact RdN.of_pick 3 rfl rdn_all | exact RdN.of_pick 4 rfl rdn_all | exact RdN.of_pick 5 rfl rdn_all | exact RdN.of_pick 6 rfl rdn_all) rfl)) ?_ ?_
      rotate_left 1
      exact ⟨p12, c12, p3, c3, rfl, hv12, rfl⟩
      exact (SubH.cons 2 rfl (SubH.cons 2 rfl (SubH.nil _)))
  · replace hg19 := of_decide_eq_false hg19
    dsimp only at hg19
    refine ops_skip' rfl rfl ?_
    refine ops_skip' rfl rfl ?_
    refine ops_ro' rfl (ro_pick rfl rfl) rfl ?_
    refine ops_nil ?_
    refine Then_normal ?_
    refine wp_condF rfl ?_
    refine wp_exit' ?_
    refine Then_exit ?_
    refine Then_exit ?_
    refine InBlock_here ?_
    refine Then_normal ?_
    refine wp_seq' ?_
    have hx : c.ns.take i = c.ns.take 6 := by
      by_cases h : i = 6
      · rw [h]
      · rw [List.take_of_length_le (by omega), List.take_of_length_le (by omega)]
    rw [hx]
    refine wp_region' ?_
    refine ops_ro' rfl (ro_move rfl) rfl ?_
    refine ops_ro' rfl (ro_fieldAddr fa66_4 rfl) rfl ?_
    refine ops_eff0 rfl (eff_store 0 sc64 rfl rfl rfl rfl (Nat.le_of_ble_eq_true rfl) (warm_zero _)) rfl ?_
    rintro _ _ rfl
    refine ops_nil ?_
    refine Then_normal ?_
    refine wp_seq' ?_
    refine wp_region' ?_
    refine ops_ro' rfl (ro_loadA ag66 rfl (RdN.of_pick 0 rfl rdn_all) rfl) rfl ?_
    refine ops_eff0 rfl (eff_storeA 1 ag66 rfl rfl rfl rfl rfl (Nat.le_of_ble_eq_true rfl) (warm_zero _)) rfl ?_
    rintro _ _ rfl
    refine ops_nil ?_
    refine Then_normal ?_
    refine wp_ret' ?_
    refine' doneS_ret (resv1 rfl (rv_cellA ag66 rfl (by first | exact RdN.of_pick 0 rfl rdn_all | exact RdN.of_pick 1 rfl rdn_all | exact RdN.of_pick 2 rfl rdn_all | exact RdN.of_pick 3 rfl rdn_all | exact RdN.of_pick 4 rfl rdn_all | exact RdN.of_pick 5 rfl rdn_all | exact RdN.of_pick 6 rfl rdn_all) rfl)) ?_ ?_
    rotate_left 1
    exact ⟨p12, c12, p3, c3, rfl, hv12, rfl⟩
    exact (SubH.cons 2 rfl (SubH.cons 2 rfl (SubH.nil _)))

end Go.Proofs.Ytigaolglnnjnmaa
