/-
  Package strongroomref17: requests written.
-/
import Derived.Test.YtigaolglnnjnmaaSfM
import Derived.Test.YtigaolglnnjnmaaSfA
import Derived.Test.YtigaolglnnjnmaaQw
namespace Go.Proofs.Ytigaolglnnjnmaa
open Go.Sx
set_option linter.unusedVariables false
set_option linter.unusedSimpArgs false
set_option maxRecDepth 100000
set_option maxHeartbeats 4000000

theorem qwU32_tw {V : HProp} (p : Option Addr) (c : Nat) (l : List UInt8) (hV : Vw V (.slice p l.length c) l.length (cel l)) (hl : l.length ≤ 1000) (n : Nat) {x : List UInt8} (hx : l ++ be n 4 = x) : Tri Try.prog 53 [.slice p l.length c, .int .u32 n] [V] (fun v H' => ∃ K, (∃ p' c', v = .slice p' x.length c' ∧ K = [row 5 1 (.slice p' x.length c') x.length (cel x)]) ∧ H' = K ++ [V]) := by
  subst hx; exact qwU32 p c l hV (by omega) n
def midB (a : Ax) (c : Rc) : List UInt8 := opt a.pa (txB c.pa) ++ opt a.to (txB c.to) ++ opt a.ha (txB c.ha) ++ opt a.off (be c.off 8) ++ opt a.len (be c.len 4) ++ opt a.da (txB c.da) ++ opt a.fl (be c.fl 4)
def LongQ (a : Ax) (c : Rc) : Prop := (a.pa = true ∧ 256 < c.pa.length) ∨ (a.to = true ∧ 256 < c.to.length) ∨ (a.ha = true ∧ 256 < c.ha.length) ∨ (a.da = true ∧ 32768 < c.da.length)
theorem lq1 {n : Nat} : (decide ((256 : Int) < (n : Int)) = true) ↔ 256 < n := by rw [decide_eq_true_eq]; omega
theorem lq2 {n m : Nat} {k : Int} {j : Nat} (hk : k = j) (h : ¬ 256 < m) : (decide (k < (n : Int)) = true) ↔ 256 < m ∨ j < n := by rw [decide_eq_true_eq]; omega
theorem lq3 {n m j : Nat} (h : 256 < m) : (true = true) ↔ 256 < m ∨ j < n := ⟨fun _ => .inl h, fun _ => rfl⟩
structure Rc.Small (c : Rc) : Prop where
  pa : c.pa.length ≤ 300
  to : c.to.length ≤ 300
  ha : c.ha.length ≤ 300
  da : c.da.length ≤ 300
theorem reqB_mid (a : Ax) (id : Nat) (c : Rc) : reqB a id c = b8 c.k :: be id 4 ++ midB a c ++ opt a.at' c.at'.enc := by
  unfold reqB midB; simp only [List.append_assoc, List.cons_append]
theorem ax_in {k : Int} (h : 3 ≤ k ∧ k ≤ 18) : (axOf k).2 = true := by
  obtain ⟨n, rfl⟩ := Int.eq_ofNat_of_zero_le (show 0 ≤ k by omega)
  have : n = 3 ∨ n = 4 ∨ n = 5 ∨ n = 6 ∨ n = 7 ∨ n = 8 ∨ n = 9 ∨ n = 10 ∨ n = 11 ∨ n = 12 ∨ n = 13 ∨ n = 14 ∨ n = 15 ∨ n = 16 ∨ n = 17 ∨ n = 18 := by omega
  rcases this with rfl | rfl | rfl | rfl | rfl | rfl | rfl | rfl | rfl | rfl | rfl | rfl | rfl | rfl | rfl | rfl <;> rfl
theorem ax_k2 {k : Int} (h : (axOf k).2 = true) : 3 ≤ k ∧ k ≤ 18 := by
  by_cases h1 : 3 ≤ k ∧ k ≤ 18
  · exact h1
  · exfalso
    have e : axOf k = (⟨false, false, false, false, false, false, false, false⟩, false) := by
      unfold axOf
      rw [if_neg (by omega), if_neg (by omega), if_neg (by omega), if_neg (by omega), if_neg (by omega), if_neg (by omega), if_neg (by omega), if_neg (by omega)]
    rw [e] at h; cases h
theorem ax_out {k : Int} (h : k < 3 ∨ 18 < k) : (axOf k).2 = false := by
  cases h2 : (axOf k).2 with
  | false => rfl
  | true => have := ax_k2 h2; omega


theorem r17Enc_spec (V : HProp) (id : Nat) (hid : id < 4294967296) (c : Rc) (hk : c.Ok) (hs : c.Small) (dp : Option Addr) (dn : Nat) (hV : Vw V (.slice dp c.da.length dn) c.da.length (cel c.da)) : Tri Try.prog 32 [.int .u32 (id : Int), c.v dp dn] [V]
    (fun v H' => ∃ K, (∃ p n, v = .tuple #[.slice p (encB (axOf c.k) id c).length n, .int .i64 (encE (axOf c.k) c)] ∧ K = [row 5 1 (.slice p (encB (axOf c.k) id c).length n) (encB (axOf c.k) id c).length (cel (encB (axOf c.k) id c))]) ∧ H' = K ++ [V]) := by
  refine tri_of_wpS Try.func32 rfl Try.ntmps32 (by simp) ?_
  refine wp_seq' ?_
  refine wp_region' ?_
  refine ops_eff' rfl (eff_box rfl) rfl ?_
  rintro _ _ ⟨b3, rfl, rfl⟩
  refine ops_ro' rfl (ro_assign rfl) rfl ?_
  refine ops_ro' rfl (ro_assign rfl) rfl ?_
  refine ops_nil ?_
  refine Then_normal ?_
  refine wp_seq' ?_
  refine wp_seq' ?_
  refine wp_region' ?_
  refine ops_ro' rfl (ro_fieldAddr fa56_0 rfl) rfl ?_
  refine ops_ro' rfl (ro_load sc3 rfl (Rd.pick 0 rfl (Rd.own rfl))) rfl ?_
  refine ops_ro' rfl (ro_lss rfl rfl rfl) rfl ?_
  refine ops_split rfl rfl rfl (fun hg12 => ?_) (fun hg12 => ?_)
  · replace hg12 := of_decide_eq_true hg12
    refine ops_skip' rfl rfl ?_
    refine ops_skip' rfl rfl ?_
    refine ops_skip' rfl rfl ?_
    refine ops_ro' rfl (ro_pick rfl rfl) rfl ?_
    refine ops_nil ?_
    refine Then_normal ?_
    refine wp_condT rfl ?_
    refine wp_seq' ?_
    refine wp_region' ?_
    refine ops_ro' rfl (ro_assign rfl) rfl ?_
    refine ops_ro' rfl (ro_assign rfl) rfl ?_
    refine ops_nil ?_
    refine Then_normal ?_
    refine wp_ret' ?_
    refine Then_ret ?_
    refine' doneS_ret (res2 rfl rfl rfl) ?_ ?_
    rotate_left 1
    have HE : encE (axOf c.k) c = 23 := by unfold encE; rw [if_pos (ax_out (by omega))]
    have HB : encB (axOf c.k) id c = [] := by unfold encB; rw [if_neg (by rw [HE]; decide)]
    rw [HE, HB]
    exact ⟨_, ⟨none, 0, rfl, rfl⟩, rfl⟩
    exact (SubH.rown (SubH.cons 1 rfl (SubH.nil _)))
  · replace hg12 := of_decide_eq_false hg12
    refine ops_ro' rfl (ro_fieldAddr fa56_0 rfl) rfl ?_
    refine ops_ro' rfl (ro_load sc3 rfl (Rd.pick 0 rfl (Rd.own rfl))) rfl ?_
    refine ops_ro' rfl (ro_gtr rfl rfl rfl) rfl ?_
    refine ops_ro' rfl (ro_pick rfl rfl) rfl ?_
    refine ops_nil ?_
    refine Then_normal ?_
    refine wp_cond' rfl (fun hc16 => ?_) (fun hc16 => ?_)
    · replace hc16 := of_decide_eq_true hc16
      refine wp_seq' ?_
      refine wp_region' ?_
      refine ops_ro' rfl (ro_assign rfl) rfl ?_
      refine ops_ro' rfl (ro_assign rfl) rfl ?_
      refine ops_nil ?_
      refine Then_normal ?_
      refine wp_ret' ?_
      refine Then_ret ?_
      refine' doneS_ret (res2 rfl rfl rfl) ?_ ?_
      rotate_left 1
      have HE : encE (axOf c.k) c = 23 := by unfold encE; rw [if_pos (ax_out (by omega))]
      have HB : encB (axOf c.k) id c = [] := by unfold encB; rw [if_neg (by rw [HE]; decide)]
      rw [HE, HB]
      exact ⟨_, ⟨none, 0, rfl, rfl⟩, rfl⟩
      exact (SubH.rown (SubH.cons 1 rfl (SubH.nil _)))
    · replace hc16 := of_decide_eq_false hc16
      refine wp_skip' ?_
      refine Then_normal ?_
      refine wp_seq' ?_
      obtain ⟨l0, hl00⟩ : ∃ z, [b8 c.k] ++ be id 4 = z := ⟨_, rfl⟩
      have hl0 : l0 = b8 c.k :: be id 4 := hl00.symm
      refine wp_region' ?_
      refine ops_ro' rfl (ro_fieldAddr fa56_0 rfl) rfl ?_
      refine ops_ro' rfl (ro_load sc3 rfl (Rd.pick 0 rfl (Rd.own rfl))) rfl ?_
      refine ops_ro' rfl (ro_conv Try.underlying3 Try.underlying5 rfl (conv_b8 c.k)) rfl ?_
      refine ops_eff' rfl (eff_lit sl32 rfl (sbld (cs := cel [b8 c.k]) [(.int .u8 0)] sl32 (by decide) (by kernel_rfl) rfl) rfl (by decide)) rfl ?_
      rintro _ _ ⟨b20, rfl, rfl⟩
      refine ops_ro' rfl (ro_move rfl) rfl ?_
      refine ops_eff' rfl (eff_callM (Pre := []) Try.call53 rfl rfl (Split.nil _) (qwU32_tw _ _ [b8 c.k] (by first | exact (Vw.pick 0 rfl hV) | exact (Vw.pick 1 rfl hV) | exact (Vw.pick 2 rfl hV) | exact (Vw.pick 3 rfl hV) | exact (Vw.pick 4 rfl hV) | exact (Vw.pick 5 rfl hV) | exact (Vw.pick 6 rfl hV) | exact Vw.pick 0 rfl Vw.row | exact Vw.pick 1 rfl Vw.row | exact Vw.pick 2 rfl Vw.row | exact Vw.pick 3 rfl Vw.row | exact Vw.pick 4 rfl Vw.row | exact Vw.pick 5 rfl Vw.row | exact Vw.pick 6 rfl Vw.row | exact Vw.nil _ | exact Vw.empty _ _) (by simp) id hl00)) rfl ?_
      rintro _ H' ⟨_, ⟨p0, c0, rfl, rfl⟩, hH⟩
      simp only [List.cons_append, List.nil_append, List.eraseIdx_cons_zero, List.eraseIdx_cons_succ, List.set_cons_zero, List.set_cons_succ] at hH
      subst hH
      have n0 : l0.length = 5 := by rw [hl0, List.length_cons, be_length]
      refine ops_ro' rfl (ro_assign rfl) rfl ?_
      refine ops_nil ?_
      refine Then_normal ?_
      refine wp_seq' ?_
      refine wp_region' ?_
      refine ops_ro' rfl (ro_assign rfl) rfl ?_
      refine ops_nil ?_
      refine Then_normal ?_
      refine wp_seq' ?_
      refine wp_region' ?_
      refine ops_ro' rfl (ro_assign rfl) rfl ?_
      refine ops_nil ?_
      refine Then_normal ?_
      refine wp_cutK 1036 (fun Δ LL => ∃ (p1 : Option Addr) (c1 : Nat) (l1 : List UInt8) (lg fm : Bool), (l1 = l0 ++ midB (axOf c.k).1 c ∧ (lg = true ↔ LongQ (axOf c.k).1 c) ∧ fm = (axOf c.k).1.at' ∧ l1.length ≤ 2000) ∧ Δ = [(6, .slice p1 l1.length c1), (7, .bool lg), (8, .bool fm)] ∧ LL = [own b3 (.cells (c.cs dp dn).toArray 56 (0, 0)), row 5 1 (.slice p1 l1.length c1) l1.length (cel l1), V]) (Has.cons (k := 3) rfl (Has.nil _)) ?_ ?_
      · refine wp_seq' ?_
        have s1 := hs.pa; have s2 := hs.to; have s3 := hs.ha; have s4 := hs.da
        refine wp_region' ?_
        refine ops_ro' rfl (ro_fieldAddr fa56_0 rfl) rfl ?_
        refine ops_ro' rfl (ro_load sc3 rfl (Rd.pick 2 rfl (Rd.own rfl))) rfl ?_
        refine ops_nil ?_
        refine Then_normal ?_
        refine wp_block' ?_
        refine wp_seq' ?_
        refine wp_region' ?_
        refine ops_ro' rfl (ro_eql rfl rfl rfl) rfl ?_
        refine ops_ro' rfl (ro_assign rfl) rfl ?_
        refine ops_nil ?_
        refine Then_normal ?_
        refine wp_cond' rfl (fun hc33 => ?_) (fun hc33 => ?_)
        · replace hc33 := of_decide_eq_true hc33
          refine wp_seq' ?_
          refine wp_draw 7 (by kernel_rfl) (Split.cons 2 rfl (Split.cons 2 rfl (Split.nil _))) ?_
          refine any_ro' (i := 0) (by kernel_rfl) rfl rfl (ro_move rfl) rfl (fun _ _ _ h => h) ?_
          refine any_ro' (i := 1) (by kernel_rfl) rfl rfl (ro_fieldAddr fa56_1 rfl) rfl (fun _ _ _ h => h) ?_
          refine any_ro' (i := 2) (by kernel_rfl) rfl rfl (ro_load sc9 rfl (Rd.pick 0 rfl (Rd.own rfl))) rfl (fun _ _ _ h => h) ?_
          refine any_ro' (i := 4) (by kernel_rfl) rfl rfl (ro_fieldAddr fa56_7 rfl) rfl (fun _ _ _ h => h) ?_
          refine any_ro' (i := 5) (by kernel_rfl) rfl rfl (ro_load sc40 rfl (Rd.pick 0 rfl (Rd.own rfl))) rfl (fun _ _ _ h => h) ?_
          refine any_eff' (i := 3) (by kernel_rfl) rfl rfl (eff_callM (Pre := []) Try.call44 rfl rfl (Split.nil _) (qwText _ _ l0 (Vw.pick 0 rfl Vw.row) (by omega) c.pa (by omega))) rfl ?_
          rintro _ H' ⟨_, ⟨p38, c38, rfl, rfl⟩, hH⟩
          simp only [List.cons_append, List.nil_append, List.eraseIdx_cons_zero, List.eraseIdx_cons_succ, List.set_cons_zero, List.set_cons_succ] at hH
          subst hH
          obtain ⟨z38, hz38⟩ : ∃ z, z = l0 ++ be c.pa.length 4 ++ c.pa := ⟨_, rfl⟩
          rw [← hz38]
          have hzl38 : z38.length ≤ 400 := by rw [hz38]; simp only [List.length_append, be_length]; omega
          refine any_eff' (i := 6) (by kernel_rfl) rfl rfl (eff_callM (Pre := []) Try.call53 rfl rfl (Split.nil _) (qwU32 _ _ z38 (Vw.pick 0 rfl Vw.row) (by omega) c.fl)) rfl ?_
          rintro _ H' ⟨_, ⟨p41, c41, rfl, rfl⟩, hH⟩
          simp only [List.cons_append, List.nil_append, List.eraseIdx_cons_zero, List.eraseIdx_cons_succ, List.set_cons_zero, List.set_cons_succ] at hH
          subst hH
          obtain ⟨z41, hz41⟩ : ∃ z, z = z38 ++ be c.fl 4 := ⟨_, rfl⟩
          rw [← hz41]
          have hzl41 : z41.length ≤ 500 := by rw [hz41]; simp only [List.length_append, be_length]; omega
          refine any_unlock (m' := 8) (L' := []) (by kernel_rfl) unlock ?_
          simp only [List.cons_append, List.nil_append, List.append_nil]
          refine any_ro' (i := 7) (by kernel_rfl) rfl rfl (ro_assign rfl) rfl (fun _ _ _ h => h) ?_
          refine any_doneH (by kernel_rfl) ?_
          refine Then_normal ?_
          refine wp_seq' ?_
          refine wp_region' ?_
          refine ops_ro' rfl (ro_fieldAddr fa56_1 rfl) rfl ?_
          refine ops_ro' rfl (ro_load sc9 rfl (Rd.pick 0 rfl (Rd.own rfl))) rfl ?_
          refine ops_ro' rfl (ro_lenS (t' := 0) Try.underlying9 rfl) rfl ?_
          refine ops_ro' rfl (ro_gtr rfl rfl rfl) rfl ?_
          refine ops_ro' rfl (ro_assign rfl) rfl ?_
          refine ops_nil ?_
          refine Then_normal ?_
          refine wp_region' ?_
          refine ops_ro' rfl (ro_assign rfl) rfl ?_
          refine ops_nil ?_
          refine InBlock_normal ?_
          refine Then_normal ?_
          refine over_cut (kept ⟨p41, c41, z41, decide ((256 : Int) < (c.pa.length : Int)), true, ⟨by rw [(show axOf c.k = (⟨true, false, false, false, false, false, true, true⟩, true) from by unfold axOf; rw [if_pos (by omega)]), hz41, hz38]; simp only [midB, opt, txB, if_true, Bool.false_eq_true, if_false, List.append_assoc, List.nil_append, List.append_nil], by rw [(show axOf c.k = (⟨true, false, false, false, false, false, true, true⟩, true) from by unfold axOf; rw [if_pos (by omega)])]; simp only [LongQ, true_and, false_and, Bool.false_eq_true, or_false, false_or]; exact lq1, by rw [(show axOf c.k = (⟨true, false, false, false, false, false, true, true⟩, true) from by unfold axOf; rw [if_pos (by omega)])], by omega⟩, rfl, rfl⟩ ?_ ?_ ?_)
          · exact (by repeat (first | exact Has.nil _ | refine Has.cons rfl ?_))
          · exact (by repeat (first | exact Has.nil _ | refine Has.cons rfl ?_))
          · exact (SubH.cons 0 rfl (SubH.cons 1 rfl (SubH.cons 0 rfl (SubH.nil _))))
        · replace hc33 := of_decide_eq_false hc33
          refine wp_seq' ?_
          refine wp_seq' ?_
          refine wp_region' ?_
          refine ops_ro' rfl (ro_eql rfl rfl rfl) rfl ?_
          refine ops_ro' rfl (ro_assign rfl) rfl ?_
          refine ops_nil ?_
          refine Then_normal ?_
          refine wp_cond' rfl (fun hc46 => ?_) (fun hc46 => ?_)
          · replace hc46 := of_decide_eq_true hc46
            refine wp_skip' ?_
            refine Then_normal ?_
            refine wp_cond' rfl (fun hc46 => ?_) (fun hc46 => ?_)
            · replace hc46 := of_decide_eq_true hc46
              refine wp_seq' ?_
              refine wp_region' ?_
              refine ops_ro' rfl (ro_move rfl) rfl ?_
              refine ops_ro' rfl (ro_fieldAddr fa56_3 rfl) rfl ?_
              refine ops_ro' rfl (ro_load sc9 rfl (Rd.pick 2 rfl (Rd.own rfl))) rfl ?_
              refine ops_eff' rfl (eff_callM (Pre := []) Try.call44 rfl rfl (Split.nil _) (qwText _ _ l0 (Vw.pick 0 rfl Vw.row) (by omega) c.ha (by omega))) rfl ?_
              rintro _ H' ⟨_, ⟨p53, c53, rfl, rfl⟩, hH⟩
              simp only [List.cons_append, List.nil_append, List.eraseIdx_cons_zero, List.eraseIdx_cons_succ, List.set_cons_zero, List.set_cons_succ] at hH
              subst hH
              obtain ⟨z53, hz53⟩ : ∃ z, z = l0 ++ be c.ha.length 4 ++ c.ha := ⟨_, rfl⟩
              rw [← hz53]
              have hzl53 : z53.length ≤ 400 := by rw [hz53]; simp only [List.length_append, be_length]; omega
              refine ops_ro' rfl (ro_assign rfl) rfl ?_
              refine ops_nil ?_
              refine Then_normal ?_
              refine wp_region' ?_
              refine ops_ro' rfl (ro_fieldAddr fa56_3 rfl) rfl ?_
              refine ops_ro' rfl (ro_load sc9 rfl (Rd.pick 3 rfl (Rd.own rfl))) rfl ?_
              refine ops_ro' rfl (ro_lenS (t' := 0) Try.underlying9 rfl) rfl ?_
              refine ops_ro' rfl (ro_gtr rfl rfl rfl) rfl ?_
              refine ops_ro' rfl (ro_assign rfl) rfl ?_
              refine ops_nil ?_
              refine InBlock_normal ?_
              refine Then_normal ?_
              refine over_cut (kept ⟨p53, c53, z53, decide ((256 : Int) < (c.ha.length : Int)), false, ⟨by rw [(show axOf c.k = (⟨false, false, true, false, false, false, false, false⟩, true) from by unfold axOf; rw [if_neg (by omega)]; rw [if_pos (by omega)]), hz53]; simp only [midB, opt, txB, if_true, Bool.false_eq_true, if_false, List.append_assoc, List.nil_append, List.append_nil], by rw [(show axOf c.k = (⟨false, false, true, false, false, false, false, false⟩, true) from by unfold axOf; rw [if_neg (by omega)]; rw [if_pos (by omega)])]; simp only [LongQ, true_and, false_and, Bool.false_eq_true, or_false, false_or]; exact lq1, by rw [(show axOf c.k = (⟨false, false, true, false, false, false, false, false⟩, true) from by unfold axOf; rw [if_neg (by omega)]; rw [if_pos (by omega)])], by omega⟩, rfl, rfl⟩ ?_ ?_ ?_)
              · exact (by repeat (first | exact Has.nil _ | refine Has.cons rfl ?_))
              · exact (by repeat (first | exact Has.nil _ | refine Has.cons rfl ?_))
              · exact (SubH.cons 3 rfl (SubH.cons 0 rfl (SubH.cons 2 rfl (SubH.nil _))))
            · replace hc46 := of_decide_eq_false hc46
              exfalso; omega
          · replace hc46 := of_decide_eq_false hc46
            refine wp_seq' ?_
            refine wp_region' ?_
            refine ops_ro' rfl (ro_eql rfl rfl rfl) rfl ?_
            refine ops_ro' rfl (ro_assign rfl) rfl ?_
            refine ops_nil ?_
            refine Then_normal ?_
            refine wp_cond' rfl (fun hc46 => ?_) (fun hc46 => ?_)
            · replace hc46 := of_decide_eq_true hc46
              refine wp_skip' ?_
              refine Then_normal ?_
              refine wp_cond' rfl (fun hc46 => ?_) (fun hc46 => ?_)
              · replace hc46 := of_decide_eq_true hc46
                refine wp_seq' ?_
                refine wp_region' ?_
                refine ops_ro' rfl (ro_move rfl) rfl ?_
                refine ops_ro' rfl (ro_fieldAddr fa56_3 rfl) rfl ?_
                refine ops_ro' rfl (ro_load sc9 rfl (Rd.pick 2 rfl (Rd.own rfl))) rfl ?_
                refine ops_eff' rfl (eff_callM (Pre := []) Try.call44 rfl rfl (Split.nil _) (qwText _ _ l0 (Vw.pick 0 rfl Vw.row) (by omega) c.ha (by omega))) rfl ?_
                rintro _ H' ⟨_, ⟨p53, c53, rfl, rfl⟩, hH⟩
                simp only [List.cons_append, List.nil_append, List.eraseIdx_cons_zero, List.eraseIdx_cons_succ, List.set_cons_zero, List.set_cons_succ] at hH
                subst hH
                obtain ⟨z53, hz53⟩ : ∃ z, z = l0 ++ be c.ha.length 4 ++ c.ha := ⟨_, rfl⟩
                rw [← hz53]
                have hzl53 : z53.length ≤ 400 := by rw [hz53]; simp only [List.length_append, be_length]; omega
                refine ops_ro' rfl (ro_assign rfl) rfl ?_
                refine ops_nil ?_
                refine Then_normal ?_
                refine wp_region' ?_
                refine ops_ro' rfl (ro_fieldAddr fa56_3 rfl) rfl ?_
                refine ops_ro' rfl (ro_load sc9 rfl (Rd.pick 3 rfl (Rd.own rfl))) rfl ?_
                refine ops_ro' rfl (ro_lenS (t' := 0) Try.underlying9 rfl) rfl ?_
                refine ops_ro' rfl (ro_gtr rfl rfl rfl) rfl ?_
                refine ops_ro' rfl (ro_assign rfl) rfl ?_
                refine ops_nil ?_
                refine InBlock_normal ?_
                refine Then_normal ?_
                refine over_cut (kept ⟨p53, c53, z53, decide ((256 : Int) < (c.ha.length : Int)), false, ⟨by rw [(show axOf c.k = (⟨false, false, true, false, false, false, false, false⟩, true) from by unfold axOf; rw [if_neg (by omega)]; rw [if_pos (by omega)]), hz53]; simp only [midB, opt, txB, if_true, Bool.false_eq_true, if_false, List.append_assoc, List.nil_append, List.append_nil], by rw [(show axOf c.k = (⟨false, false, true, false, false, false, false, false⟩, true) from by unfold axOf; rw [if_neg (by omega)]; rw [if_pos (by omega)])]; simp only [LongQ, true_and, false_and, Bool.false_eq_true, or_false, false_or]; exact lq1, by rw [(show axOf c.k = (⟨false, false, true, false, false, false, false, false⟩, true) from by unfold axOf; rw [if_neg (by omega)]; rw [if_pos (by omega)])], by omega⟩, rfl, rfl⟩ ?_ ?_ ?_)
                · exact (by repeat (first | exact Has.nil _ | refine Has.cons rfl ?_))
                · exact (by repeat (first | exact Has.nil _ | refine Has.cons rfl ?_))
                · exact (SubH.cons 3 rfl (SubH.cons 0 rfl (SubH.cons 2 rfl (SubH.nil _))))
              · replace hc46 := of_decide_eq_false hc46
                exfalso; omega
            · replace hc46 := of_decide_eq_false hc46
              refine wp_region' ?_
              refine ops_ro' rfl (ro_eql rfl rfl rfl) rfl ?_
              refine ops_ro' rfl (ro_assign rfl) rfl ?_
              refine ops_nil ?_
              refine Then_normal ?_
              refine wp_cond' rfl (fun hc46 => ?_) (fun hc46 => ?_)
              · replace hc46 := of_decide_eq_true hc46
                refine wp_seq' ?_
                refine wp_region' ?_
                refine ops_ro' rfl (ro_move rfl) rfl ?_
                refine ops_ro' rfl (ro_fieldAddr fa56_3 rfl) rfl ?_
                refine ops_ro' rfl (ro_load sc9 rfl (Rd.pick 2 rfl (Rd.own rfl))) rfl ?_
                refine ops_eff' rfl (eff_callM (Pre := []) Try.call44 rfl rfl (Split.nil _) (qwText _ _ l0 (Vw.pick 0 rfl Vw.row) (by omega) c.ha (by omega))) rfl ?_
                rintro _ H' ⟨_, ⟨p53, c53, rfl, rfl⟩, hH⟩
                simp only [List.cons_append, List.nil_append, List.eraseIdx_cons_zero, List.eraseIdx_cons_succ, List.set_cons_zero, List.set_cons_succ] at hH
                subst hH
                obtain ⟨z53, hz53⟩ : ∃ z, z = l0 ++ be c.ha.length 4 ++ c.ha := ⟨_, rfl⟩
                rw [← hz53]
                have hzl53 : z53.length ≤ 400 := by rw [hz53]; simp only [List.length_append, be_length]; omega
                refine ops_ro' rfl (ro_assign rfl) rfl ?_
                refine ops_nil ?_
                refine Then_normal ?_
                refine wp_region' ?_
                refine ops_ro' rfl (ro_fieldAddr fa56_3 rfl) rfl ?_
                refine ops_ro' rfl (ro_load sc9 rfl (Rd.pick 3 rfl (Rd.own rfl))) rfl ?_
                refine ops_ro' rfl (ro_lenS (t' := 0) Try.underlying9 rfl) rfl ?_
                refine ops_ro' rfl (ro_gtr rfl rfl rfl) rfl ?_
                refine ops_ro' rfl (ro_assign rfl) rfl ?_
                refine ops_nil ?_
                refine InBlock_normal ?_
                refine Then_normal ?_
                refine over_cut (kept ⟨p53, c53, z53, decide ((256 : Int) < (c.ha.length : Int)), false, ⟨by rw [(show axOf c.k = (⟨false, false, true, false, false, false, false, false⟩, true) from by unfold axOf; rw [if_neg (by omega)]; rw [if_pos (by omega)]), hz53]; simp only [midB, opt, txB, if_true, Bool.false_eq_true, if_false, List.append_assoc, List.nil_append, List.append_nil], by rw [(show axOf c.k = (⟨false, false, true, false, false, false, false, false⟩, true) from by unfold axOf; rw [if_neg (by omega)]; rw [if_pos (by omega)])]; simp only [LongQ, true_and, false_and, Bool.false_eq_true, or_false, false_or]; exact lq1, by rw [(show axOf c.k = (⟨false, false, true, false, false, false, false, false⟩, true) from by unfold axOf; rw [if_neg (by omega)]; rw [if_pos (by omega)])], by omega⟩, rfl, rfl⟩ ?_ ?_ ?_)
                · exact (by repeat (first | exact Has.nil _ | refine Has.cons rfl ?_))
                · exact (by repeat (first | exact Has.nil _ | refine Has.cons rfl ?_))
                · exact (SubH.cons 3 rfl (SubH.cons 0 rfl (SubH.cons 2 rfl (SubH.nil _))))
              · replace hc46 := of_decide_eq_false hc46
                refine wp_seq' ?_
                refine wp_region' ?_
                refine ops_ro' rfl (ro_eql rfl rfl rfl) rfl ?_
                refine ops_ro' rfl (ro_assign rfl) rfl ?_
                refine ops_nil ?_
                refine Then_normal ?_
                refine wp_cond' rfl (fun hc58 => ?_) (fun hc58 => ?_)
                · replace hc58 := of_decide_eq_true hc58
                  refine wp_seq' ?_
                  refine wp_draw 10 (by kernel_rfl) (Split.cons 2 rfl (Split.cons 2 rfl (Split.nil _))) ?_
                  refine any_ro' (i := 0) (by kernel_rfl) rfl rfl (ro_move rfl) rfl (fun _ _ _ h => h) ?_
                  refine any_ro' (i := 1) (by kernel_rfl) rfl rfl (ro_fieldAddr fa56_3 rfl) rfl (fun _ _ _ h => h) ?_
                  refine any_ro' (i := 2) (by kernel_rfl) rfl rfl (ro_load sc9 rfl (Rd.pick 0 rfl (Rd.own rfl))) rfl (fun _ _ _ h => h) ?_
                  refine any_ro' (i := 4) (by kernel_rfl) rfl rfl (ro_fieldAddr fa56_4 rfl) rfl (fun _ _ _ h => h) ?_
                  refine any_ro' (i := 5) (by kernel_rfl) rfl rfl (ro_load sc52 rfl (Rd.pick 0 rfl (Rd.own rfl))) rfl (fun _ _ _ h => h) ?_
                  refine any_ro' (i := 7) (by kernel_rfl) rfl rfl (ro_fieldAddr fa56_5 rfl) rfl (fun _ _ _ h => h) ?_
                  refine any_ro' (i := 8) (by kernel_rfl) rfl rfl (ro_load sc40 rfl (Rd.pick 0 rfl (Rd.own rfl))) rfl (fun _ _ _ h => h) ?_
                  refine any_eff' (i := 3) (by kernel_rfl) rfl rfl (eff_callM (Pre := []) Try.call44 rfl rfl (Split.nil _) (qwText _ _ l0 (Vw.pick 0 rfl Vw.row) (by omega) c.ha (by omega))) rfl ?_
                  rintro _ H' ⟨_, ⟨p63, c63, rfl, rfl⟩, hH⟩
                  simp only [List.cons_append, List.nil_append, List.eraseIdx_cons_zero, List.eraseIdx_cons_succ, List.set_cons_zero, List.set_cons_succ] at hH
                  subst hH
                  obtain ⟨z63, hz63⟩ : ∃ z, z = l0 ++ be c.ha.length 4 ++ c.ha := ⟨_, rfl⟩
                  rw [← hz63]
                  have hzl63 : z63.length ≤ 400 := by rw [hz63]; simp only [List.length_append, be_length]; omega
                  refine any_eff' (i := 6) (by kernel_rfl) rfl rfl (eff_callM (Pre := []) Try.call69 rfl rfl (Split.nil _) (qwU64 _ _ z63 (Vw.pick 0 rfl Vw.row) (by omega) c.off)) rfl ?_
                  rintro _ H' ⟨_, ⟨p66, c66, rfl, rfl⟩, hH⟩
                  simp only [List.cons_append, List.nil_append, List.eraseIdx_cons_zero, List.eraseIdx_cons_succ, List.set_cons_zero, List.set_cons_succ] at hH
                  subst hH
                  obtain ⟨z66, hz66⟩ : ∃ z, z = z63 ++ be c.off 8 := ⟨_, rfl⟩
                  rw [← hz66]
                  have hzl66 : z66.length ≤ 500 := by rw [hz66]; simp only [List.length_append, be_length]; omega
                  refine any_eff' (i := 9) (by kernel_rfl) rfl rfl (eff_callM (Pre := []) Try.call53 rfl rfl (Split.nil _) (qwU32 _ _ z66 (Vw.pick 0 rfl Vw.row) (by omega) c.len)) rfl ?_
                  rintro _ H' ⟨_, ⟨p69, c69, rfl, rfl⟩, hH⟩
                  simp only [List.cons_append, List.nil_append, List.eraseIdx_cons_zero, List.eraseIdx_cons_succ, List.set_cons_zero, List.set_cons_succ] at hH
                  subst hH
                  obtain ⟨z69, hz69⟩ : ∃ z, z = z66 ++ be c.len 4 := ⟨_, rfl⟩
                  rw [← hz69]
                  have hzl69 : z69.length ≤ 600 := by rw [hz69]; simp only [List.length_append, be_length]; omega
                  refine any_unlock (m' := 11) (L' := []) (by kernel_rfl) unlock ?_
                  simp only [List.cons_append, List.nil_append, List.append_nil]
                  refine any_ro' (i := 10) (by kernel_rfl) rfl rfl (ro_assign rfl) rfl (fun _ _ _ h => h) ?_
                  refine any_doneH (by kernel_rfl) ?_
                  refine Then_normal ?_
                  refine wp_region' ?_
                  refine ops_ro' rfl (ro_fieldAddr fa56_3 rfl) rfl ?_
                  refine ops_ro' rfl (ro_load sc9 rfl (Rd.pick 0 rfl (Rd.own rfl))) rfl ?_
                  refine ops_ro' rfl (ro_lenS (t' := 0) Try.underlying9 rfl) rfl ?_
                  refine ops_ro' rfl (ro_gtr rfl rfl rfl) rfl ?_
                  refine ops_ro' rfl (ro_assign rfl) rfl ?_
                  refine ops_nil ?_
                  refine InBlock_normal ?_
                  refine Then_normal ?_
                  refine over_cut (kept ⟨p69, c69, z69, decide ((256 : Int) < (c.ha.length : Int)), false, ⟨by rw [(show axOf c.k = (⟨false, false, true, true, true, false, false, false⟩, true) from by unfold axOf; rw [if_neg (by omega)]; rw [if_neg (by omega)]; rw [if_pos (by omega)]), hz69, hz66, hz63]; simp only [midB, opt, txB, if_true, Bool.false_eq_true, if_false, List.append_assoc, List.nil_append, List.append_nil], by rw [(show axOf c.k = (⟨false, false, true, true, true, false, false, false⟩, true) from by unfold axOf; rw [if_neg (by omega)]; rw [if_neg (by omega)]; rw [if_pos (by omega)])]; simp only [LongQ, true_and, false_and, Bool.false_eq_true, or_false, false_or]; exact lq1, by rw [(show axOf c.k = (⟨false, false, true, true, true, false, false, false⟩, true) from by unfold axOf; rw [if_neg (by omega)]; rw [if_neg (by omega)]; rw [if_pos (by omega)])], by omega⟩, rfl, rfl⟩ ?_ ?_ ?_)
                  · exact (by repeat (first | exact Has.nil _ | refine Has.cons rfl ?_))
                  · exact (by repeat (first | exact Has.nil _ | refine Has.cons rfl ?_))
                  · exact (SubH.cons 0 rfl (SubH.cons 1 rfl (SubH.cons 0 rfl (SubH.nil _))))
                · replace hc58 := of_decide_eq_false hc58
                  refine wp_seq' ?_
                  refine wp_region' ?_
                  refine ops_ro' rfl (ro_eql rfl rfl rfl) rfl ?_
                  refine ops_ro' rfl (ro_assign rfl) rfl ?_
                  refine ops_nil ?_
                  refine Then_normal ?_
                  refine wp_cond' rfl (fun hc74 => ?_) (fun hc74 => ?_)
                  · replace hc74 := of_decide_eq_true hc74
                    refine wp_seq' ?_
                    refine wp_draw 11 (by kernel_rfl) (Split.cons 2 rfl (Split.cons 2 rfl (Split.nil _))) ?_
                    refine any_ro' (i := 0) (by kernel_rfl) rfl rfl (ro_move rfl) rfl (fun _ _ _ h => h) ?_
                    refine any_ro' (i := 1) (by kernel_rfl) rfl rfl (ro_fieldAddr fa56_3 rfl) rfl (fun _ _ _ h => h) ?_
                    refine any_ro' (i := 2) (by kernel_rfl) rfl rfl (ro_load sc9 rfl (Rd.pick 0 rfl (Rd.own rfl))) rfl (fun _ _ _ h => h) ?_
                    refine any_ro' (i := 4) (by kernel_rfl) rfl rfl (ro_fieldAddr fa56_4 rfl) rfl (fun _ _ _ h => h) ?_
                    refine any_ro' (i := 5) (by kernel_rfl) rfl rfl (ro_load sc52 rfl (Rd.pick 0 rfl (Rd.own rfl))) rfl (fun _ _ _ h => h) ?_
                    refine any_ro' (i := 7) (by kernel_rfl) rfl rfl (ro_fieldAddr fa56_6 rfl) rfl (fun _ _ _ h => h) ?_
                    refine any_ro' (i := 8) (by kernel_rfl) rfl rfl (ro_load sc32 rfl (Rd.pick 0 rfl (Rd.own rfl))) rfl (fun _ _ _ h => h) ?_
                    refine any_ro' (i := 9) (by kernel_rfl) rfl rfl (ro_toStr Try.underlying32 Try.underlying5 Try.underlying9 rfl (Vw.pick 1 rfl hV) rfl) rfl (fun _ _ _ h => h) ?_
                    refine any_eff' (i := 3) (by kernel_rfl) rfl rfl (eff_callM (Pre := []) Try.call44 rfl rfl (Split.nil _) (qwText _ _ l0 (Vw.pick 0 rfl Vw.row) (by omega) c.ha (by omega))) rfl ?_
                    rintro _ H' ⟨_, ⟨p79, c79, rfl, rfl⟩, hH⟩
                    simp only [List.cons_append, List.nil_append, List.eraseIdx_cons_zero, List.eraseIdx_cons_succ, List.set_cons_zero, List.set_cons_succ] at hH
                    subst hH
                    obtain ⟨z79, hz79⟩ : ∃ z, z = l0 ++ be c.ha.length 4 ++ c.ha := ⟨_, rfl⟩
                    rw [← hz79]
                    have hzl79 : z79.length ≤ 400 := by rw [hz79]; simp only [List.length_append, be_length]; omega
                    refine any_eff' (i := 6) (by kernel_rfl) rfl rfl (eff_callM (Pre := []) Try.call69 rfl rfl (Split.nil _) (qwU64 _ _ z79 (Vw.pick 0 rfl Vw.row) (by omega) c.off)) rfl ?_
                    rintro _ H' ⟨_, ⟨p82, c82, rfl, rfl⟩, hH⟩
                    simp only [List.cons_append, List.nil_append, List.eraseIdx_cons_zero, List.eraseIdx_cons_succ, List.set_cons_zero, List.set_cons_succ] at hH
                    subst hH
                    obtain ⟨z82, hz82⟩ : ∃ z, z = z79 ++ be c.off 8 := ⟨_, rfl⟩
                    rw [← hz82]
                    have hzl82 : z82.length ≤ 500 := by rw [hz82]; simp only [List.length_append, be_length]; omega
                    refine any_eff' (i := 10) (by kernel_rfl) rfl rfl (eff_callM (Pre := []) Try.call44 rfl rfl (Split.nil _) (qwText _ _ z82 (Vw.pick 0 rfl Vw.row) (by omega) c.da (by omega))) rfl ?_
                    rintro _ H' ⟨_, ⟨p86, c86, rfl, rfl⟩, hH⟩
                    simp only [List.cons_append, List.nil_append, List.eraseIdx_cons_zero, List.eraseIdx_cons_succ, List.set_cons_zero, List.set_cons_succ] at hH
                    subst hH
                    obtain ⟨z86, hz86⟩ : ∃ z, z = z82 ++ be c.da.length 4 ++ c.da := ⟨_, rfl⟩
                    rw [← hz86]
                    have hzl86 : z86.length ≤ 900 := by rw [hz86]; simp only [List.length_append, be_length]; omega
                    refine any_unlock (m' := 12) (L' := []) (by kernel_rfl) unlock ?_
                    simp only [List.cons_append, List.nil_append, List.append_nil]
                    refine any_ro' (i := 11) (by kernel_rfl) rfl rfl (ro_assign rfl) rfl (fun _ _ _ h => h) ?_
                    refine any_doneH (by kernel_rfl) ?_
                    refine Then_normal ?_
                    refine wp_region' ?_
                    refine ops_ro' rfl (ro_fieldAddr fa56_3 rfl) rfl ?_
                    refine ops_ro' rfl (ro_load sc9 rfl (Rd.pick 0 rfl (Rd.own rfl))) rfl ?_
                    refine ops_ro' rfl (ro_lenS (t' := 0) Try.underlying9 rfl) rfl ?_
                    refine ops_ro' rfl (ro_gtr rfl rfl rfl) rfl ?_
                    refine ops_split rfl rfl rfl (fun hg91 => ?_) (fun hg91 => ?_)
                    · replace hg91 := of_decide_eq_true hg91
                      refine ops_skip' rfl rfl ?_
                      refine ops_skip' rfl rfl ?_
                      refine ops_skip' rfl rfl ?_
                      refine ops_skip' rfl rfl ?_
                      refine ops_ro' rfl (ro_pick rfl rfl) rfl ?_
                      refine ops_ro' rfl (ro_assign rfl) rfl ?_
                      refine ops_nil ?_
                      refine InBlock_normal ?_
                      refine Then_normal ?_
                      refine over_cut (kept ⟨p86, c86, z86, true, false, ⟨by rw [(show axOf c.k = (⟨false, false, true, true, false, true, false, false⟩, true) from by unfold axOf; rw [if_neg (by omega)]; rw [if_neg (by omega)]; rw [if_neg (by omega)]; rw [if_pos (by omega)]), hz86, hz82, hz79]; simp only [midB, opt, txB, if_true, Bool.false_eq_true, if_false, List.append_assoc, List.nil_append, List.append_nil], by rw [(show axOf c.k = (⟨false, false, true, true, false, true, false, false⟩, true) from by unfold axOf; rw [if_neg (by omega)]; rw [if_neg (by omega)]; rw [if_neg (by omega)]; rw [if_pos (by omega)])]; simp only [LongQ, true_and, false_and, Bool.false_eq_true, or_false, false_or]; first | exact lq3 (by omega) | exact ⟨fun _ => .inl (by omega), fun _ => trivial⟩, by rw [(show axOf c.k = (⟨false, false, true, true, false, true, false, false⟩, true) from by unfold axOf; rw [if_neg (by omega)]; rw [if_neg (by omega)]; rw [if_neg (by omega)]; rw [if_pos (by omega)])], by omega⟩, rfl, rfl⟩ ?_ ?_ ?_)
                      · exact (by repeat (first | exact Has.nil _ | refine Has.cons rfl ?_))
                      · exact (by repeat (first | exact Has.nil _ | refine Has.cons rfl ?_))
                      · exact (SubH.cons 0 rfl (SubH.cons 1 rfl (SubH.cons 0 rfl (SubH.nil _))))
                    · replace hg91 := of_decide_eq_false hg91
                      refine ops_ro' rfl (ro_fieldAddr fa56_6 rfl) rfl ?_
                      refine ops_ro' rfl (ro_load sc32 rfl (Rd.pick 0 rfl (Rd.own rfl))) rfl ?_
                      refine ops_ro' rfl (ro_sliceLen Try.underlying32 rfl) rfl ?_
                      refine ops_ro' rfl (ro_gtr rfl rfl (decide_eq_false (by omega))) rfl ?_
                      refine ops_ro' rfl (ro_pick rfl rfl) rfl ?_
                      refine ops_ro' rfl (ro_assign rfl) rfl ?_
                      refine ops_nil ?_
                      refine InBlock_normal ?_
                      refine Then_normal ?_
                      refine over_cut (kept ⟨p86, c86, z86, false, false, ⟨by rw [(show axOf c.k = (⟨false, false, true, true, false, true, false, false⟩, true) from by unfold axOf; rw [if_neg (by omega)]; rw [if_neg (by omega)]; rw [if_neg (by omega)]; rw [if_pos (by omega)]), hz86, hz82, hz79]; simp only [midB, opt, txB, if_true, Bool.false_eq_true, if_false, List.append_assoc, List.nil_append, List.append_nil], by rw [(show axOf c.k = (⟨false, false, true, true, false, true, false, false⟩, true) from by unfold axOf; rw [if_neg (by omega)]; rw [if_neg (by omega)]; rw [if_neg (by omega)]; rw [if_pos (by omega)])]; simp only [LongQ, true_and, false_and, Bool.false_eq_true, or_false, false_or]; exact ⟨fun h => (by cases h), fun h => (by omega)⟩, by rw [(show axOf c.k = (⟨false, false, true, true, false, true, false, false⟩, true) from by unfold axOf; rw [if_neg (by omega)]; rw [if_neg (by omega)]; rw [if_neg (by omega)]; rw [if_pos (by omega)])], by omega⟩, rfl, rfl⟩ ?_ ?_ ?_)
                      · exact (by repeat (first | exact Has.nil _ | refine Has.cons rfl ?_))
                      · exact (by repeat (first | exact Has.nil _ | refine Has.cons rfl ?_))
                      · exact (SubH.cons 0 rfl (SubH.cons 1 rfl (SubH.cons 0 rfl (SubH.nil _))))
                  · replace hc74 := of_decide_eq_false hc74
                    refine wp_seq' ?_
                    refine wp_seq' ?_
                    refine wp_region' ?_
                    refine ops_ro' rfl (ro_eql rfl rfl rfl) rfl ?_
                    refine ops_ro' rfl (ro_assign rfl) rfl ?_
                    refine ops_nil ?_
                    refine Then_normal ?_
                    refine wp_cond' rfl (fun hc97 => ?_) (fun hc97 => ?_)
                    · replace hc97 := of_decide_eq_true hc97
                      refine wp_skip' ?_
                      refine Then_normal ?_
                      refine wp_cond' rfl (fun hc97 => ?_) (fun hc97 => ?_)
                      · replace hc97 := of_decide_eq_true hc97
                        refine wp_seq' ?_
                        refine wp_region' ?_
                        refine ops_ro' rfl (ro_move rfl) rfl ?_
                        refine ops_ro' rfl (ro_fieldAddr fa56_1 rfl) rfl ?_
                        refine ops_ro' rfl (ro_load sc9 rfl (Rd.pick 2 rfl (Rd.own rfl))) rfl ?_
                        refine ops_eff' rfl (eff_callM (Pre := []) Try.call44 rfl rfl (Split.nil _) (qwText _ _ l0 (Vw.pick 0 rfl Vw.row) (by omega) c.pa (by omega))) rfl ?_
                        rintro _ H' ⟨_, ⟨p103, c103, rfl, rfl⟩, hH⟩
                        simp only [List.cons_append, List.nil_append, List.eraseIdx_cons_zero, List.eraseIdx_cons_succ, List.set_cons_zero, List.set_cons_succ] at hH
                        subst hH
                        obtain ⟨z103, hz103⟩ : ∃ z, z = l0 ++ be c.pa.length 4 ++ c.pa := ⟨_, rfl⟩
                        rw [← hz103]
                        have hzl103 : z103.length ≤ 400 := by rw [hz103]; simp only [List.length_append, be_length]; omega
                        refine ops_ro' rfl (ro_assign rfl) rfl ?_
                        refine ops_nil ?_
                        refine Then_normal ?_
                        refine wp_seq' ?_
                        refine wp_region' ?_
                        refine ops_ro' rfl (ro_fieldAddr fa56_1 rfl) rfl ?_
                        refine ops_ro' rfl (ro_load sc9 rfl (Rd.pick 3 rfl (Rd.own rfl))) rfl ?_
                        refine ops_ro' rfl (ro_lenS (t' := 0) Try.underlying9 rfl) rfl ?_
                        refine ops_ro' rfl (ro_gtr rfl rfl rfl) rfl ?_
                        refine ops_ro' rfl (ro_assign rfl) rfl ?_
                        refine ops_nil ?_
                        refine Then_normal ?_
                        refine wp_region' ?_
                        refine ops_ro' rfl (ro_assign rfl) rfl ?_
                        refine ops_nil ?_
                        refine InBlock_normal ?_
                        refine Then_normal ?_
                        refine over_cut (kept ⟨p103, c103, z103, decide ((256 : Int) < (c.pa.length : Int)), true, ⟨by rw [(show axOf c.k = (⟨true, false, false, false, false, false, false, true⟩, true) from by unfold axOf; rw [if_neg (by omega)]; rw [if_neg (by omega)]; rw [if_neg (by omega)]; rw [if_neg (by omega)]; rw [if_neg (by omega)]; rw [if_pos (by omega)]), hz103]; simp only [midB, opt, txB, if_true, Bool.false_eq_true, if_false, List.append_assoc, List.nil_append, List.append_nil], by rw [(show axOf c.k = (⟨true, false, false, false, false, false, false, true⟩, true) from by unfold axOf; rw [if_neg (by omega)]; rw [if_neg (by omega)]; rw [if_neg (by omega)]; rw [if_neg (by omega)]; rw [if_neg (by omega)]; rw [if_pos (by omega)])]; simp only [LongQ, true_and, false_and, Bool.false_eq_true, or_false, false_or]; exact lq1, by rw [(show axOf c.k = (⟨true, false, false, false, false, false, false, true⟩, true) from by unfold axOf; rw [if_neg (by omega)]; rw [if_neg (by omega)]; rw [if_neg (by omega)]; rw [if_neg (by omega)]; rw [if_neg (by omega)]; rw [if_pos (by omega)])], by omega⟩, rfl, rfl⟩ ?_ ?_ ?_)
                        · exact (by repeat (first | exact Has.nil _ | refine Has.cons rfl ?_))
                        · exact (by repeat (first | exact Has.nil _ | refine Has.cons rfl ?_))
                        · exact (SubH.cons 3 rfl (SubH.cons 0 rfl (SubH.cons 2 rfl (SubH.nil _))))
                      · replace hc97 := of_decide_eq_false hc97
                        exfalso; omega
                    · replace hc97 := of_decide_eq_false hc97
                      refine wp_region' ?_
                      refine ops_ro' rfl (ro_eql rfl rfl rfl) rfl ?_
                      refine ops_ro' rfl (ro_assign rfl) rfl ?_
                      refine ops_nil ?_
                      refine Then_normal ?_
                      refine wp_cond' rfl (fun hc97 => ?_) (fun hc97 => ?_)
                      · replace hc97 := of_decide_eq_true hc97
                        refine wp_seq' ?_
                        refine wp_region' ?_
                        refine ops_ro' rfl (ro_move rfl) rfl ?_
                        refine ops_ro' rfl (ro_fieldAddr fa56_1 rfl) rfl ?_
                        refine ops_ro' rfl (ro_load sc9 rfl (Rd.pick 2 rfl (Rd.own rfl))) rfl ?_
                        refine ops_eff' rfl (eff_callM (Pre := []) Try.call44 rfl rfl (Split.nil _) (qwText _ _ l0 (Vw.pick 0 rfl Vw.row) (by omega) c.pa (by omega))) rfl ?_
                        rintro _ H' ⟨_, ⟨p103, c103, rfl, rfl⟩, hH⟩
                        simp only [List.cons_append, List.nil_append, List.eraseIdx_cons_zero, List.eraseIdx_cons_succ, List.set_cons_zero, List.set_cons_succ] at hH
                        subst hH
                        obtain ⟨z103, hz103⟩ : ∃ z, z = l0 ++ be c.pa.length 4 ++ c.pa := ⟨_, rfl⟩
                        rw [← hz103]
                        have hzl103 : z103.length ≤ 400 := by rw [hz103]; simp only [List.length_append, be_length]; omega
                        refine ops_ro' rfl (ro_assign rfl) rfl ?_
                        refine ops_nil ?_
                        refine Then_normal ?_
                        refine wp_seq' ?_
                        refine wp_region' ?_
                        refine ops_ro' rfl (ro_fieldAddr fa56_1 rfl) rfl ?_
                        refine ops_ro' rfl (ro_load sc9 rfl (Rd.pick 3 rfl (Rd.own rfl))) rfl ?_
                        refine ops_ro' rfl (ro_lenS (t' := 0) Try.underlying9 rfl) rfl ?_
                        refine ops_ro' rfl (ro_gtr rfl rfl rfl) rfl ?_
                        refine ops_ro' rfl (ro_assign rfl) rfl ?_
                        refine ops_nil ?_
                        refine Then_normal ?_
                        refine wp_region' ?_
                        refine ops_ro' rfl (ro_assign rfl) rfl ?_
                        refine ops_nil ?_
                        refine InBlock_normal ?_
                        refine Then_normal ?_
                        refine over_cut (kept ⟨p103, c103, z103, decide ((256 : Int) < (c.pa.length : Int)), true, ⟨by rw [(show axOf c.k = (⟨true, false, false, false, false, false, false, true⟩, true) from by unfold axOf; rw [if_neg (by omega)]; rw [if_neg (by omega)]; rw [if_neg (by omega)]; rw [if_neg (by omega)]; rw [if_neg (by omega)]; rw [if_pos (by omega)]), hz103]; simp only [midB, opt, txB, if_true, Bool.false_eq_true, if_false, List.append_assoc, List.nil_append, List.append_nil], by rw [(show axOf c.k = (⟨true, false, false, false, false, false, false, true⟩, true) from by unfold axOf; rw [if_neg (by omega)]; rw [if_neg (by omega)]; rw [if_neg (by omega)]; rw [if_neg (by omega)]; rw [if_neg (by omega)]; rw [if_pos (by omega)])]; simp only [LongQ, true_and, false_and, Bool.false_eq_true, or_false, false_or]; exact lq1, by rw [(show axOf c.k = (⟨true, false, false, false, false, false, false, true⟩, true) from by unfold axOf; rw [if_neg (by omega)]; rw [if_neg (by omega)]; rw [if_neg (by omega)]; rw [if_neg (by omega)]; rw [if_neg (by omega)]; rw [if_pos (by omega)])], by omega⟩, rfl, rfl⟩ ?_ ?_ ?_)
                        · exact (by repeat (first | exact Has.nil _ | refine Has.cons rfl ?_))
                        · exact (by repeat (first | exact Has.nil _ | refine Has.cons rfl ?_))
                        · exact (SubH.cons 3 rfl (SubH.cons 0 rfl (SubH.cons 2 rfl (SubH.nil _))))
                      · replace hc97 := of_decide_eq_false hc97
                        refine wp_seq' ?_
                        refine wp_region' ?_
                        refine ops_ro' rfl (ro_eql rfl rfl rfl) rfl ?_
                        refine ops_ro' rfl (ro_assign rfl) rfl ?_
                        refine ops_nil ?_
                        refine Then_normal ?_
                        refine wp_cond' rfl (fun hc108 => ?_) (fun hc108 => ?_)
                        · replace hc108 := of_decide_eq_true hc108
                          refine wp_seq' ?_
                          refine wp_region' ?_
                          refine ops_ro' rfl (ro_move rfl) rfl ?_
                          refine ops_ro' rfl (ro_fieldAddr fa56_3 rfl) rfl ?_
                          refine ops_ro' rfl (ro_load sc9 rfl (Rd.pick 2 rfl (Rd.own rfl))) rfl ?_
                          refine ops_eff' rfl (eff_callM (Pre := []) Try.call44 rfl rfl (Split.nil _) (qwText _ _ l0 (Vw.pick 0 rfl Vw.row) (by omega) c.ha (by omega))) rfl ?_
                          rintro _ H' ⟨_, ⟨p113, c113, rfl, rfl⟩, hH⟩
                          simp only [List.cons_append, List.nil_append, List.eraseIdx_cons_zero, List.eraseIdx_cons_succ, List.set_cons_zero, List.set_cons_succ] at hH
                          subst hH
                          obtain ⟨z113, hz113⟩ : ∃ z, z = l0 ++ be c.ha.length 4 ++ c.ha := ⟨_, rfl⟩
                          rw [← hz113]
                          have hzl113 : z113.length ≤ 400 := by rw [hz113]; simp only [List.length_append, be_length]; omega
                          refine ops_ro' rfl (ro_assign rfl) rfl ?_
                          refine ops_nil ?_
                          refine Then_normal ?_
                          refine wp_seq' ?_
                          refine wp_region' ?_
                          refine ops_ro' rfl (ro_fieldAddr fa56_3 rfl) rfl ?_
                          refine ops_ro' rfl (ro_load sc9 rfl (Rd.pick 3 rfl (Rd.own rfl))) rfl ?_
                          refine ops_ro' rfl (ro_lenS (t' := 0) Try.underlying9 rfl) rfl ?_
                          refine ops_ro' rfl (ro_gtr rfl rfl rfl) rfl ?_
                          refine ops_ro' rfl (ro_assign rfl) rfl ?_
                          refine ops_nil ?_
                          refine Then_normal ?_
                          refine wp_region' ?_
                          refine ops_ro' rfl (ro_assign rfl) rfl ?_
                          refine ops_nil ?_
                          refine InBlock_normal ?_
                          refine Then_normal ?_
                          refine over_cut (kept ⟨p113, c113, z113, decide ((256 : Int) < (c.ha.length : Int)), true, ⟨by rw [(show axOf c.k = (⟨false, false, true, false, false, false, false, true⟩, true) from by unfold axOf; rw [if_neg (by omega)]; rw [if_neg (by omega)]; rw [if_neg (by omega)]; rw [if_neg (by omega)]; rw [if_neg (by omega)]; rw [if_neg (by omega)]; rw [if_pos (by omega)]), hz113]; simp only [midB, opt, txB, if_true, Bool.false_eq_true, if_false, List.append_assoc, List.nil_append, List.append_nil], by rw [(show axOf c.k = (⟨false, false, true, false, false, false, false, true⟩, true) from by unfold axOf; rw [if_neg (by omega)]; rw [if_neg (by omega)]; rw [if_neg (by omega)]; rw [if_neg (by omega)]; rw [if_neg (by omega)]; rw [if_neg (by omega)]; rw [if_pos (by omega)])]; simp only [LongQ, true_and, false_and, Bool.false_eq_true, or_false, false_or]; exact lq1, by rw [(show axOf c.k = (⟨false, false, true, false, false, false, false, true⟩, true) from by unfold axOf; rw [if_neg (by omega)]; rw [if_neg (by omega)]; rw [if_neg (by omega)]; rw [if_neg (by omega)]; rw [if_neg (by omega)]; rw [if_neg (by omega)]; rw [if_pos (by omega)])], by omega⟩, rfl, rfl⟩ ?_ ?_ ?_)
                          · exact (by repeat (first | exact Has.nil _ | refine Has.cons rfl ?_))
                          · exact (by repeat (first | exact Has.nil _ | refine Has.cons rfl ?_))
                          · exact (SubH.cons 3 rfl (SubH.cons 0 rfl (SubH.cons 2 rfl (SubH.nil _))))
                        · replace hc108 := of_decide_eq_false hc108
                          refine wp_seq' ?_
                          refine wp_region' ?_
                          refine ops_ro' rfl (ro_eql rfl rfl rfl) rfl ?_
                          refine ops_ro' rfl (ro_assign rfl) rfl ?_
                          refine ops_nil ?_
                          refine Then_normal ?_
                          refine wp_cond' rfl (fun hc118 => ?_) (fun hc118 => ?_)
                          · replace hc118 := of_decide_eq_true hc118
                            refine wp_seq' ?_
                            refine wp_draw 7 (by kernel_rfl) (Split.cons 2 rfl (Split.cons 2 rfl (Split.nil _))) ?_
                            refine any_ro' (i := 0) (by kernel_rfl) rfl rfl (ro_move rfl) rfl (fun _ _ _ h => h) ?_
                            refine any_ro' (i := 1) (by kernel_rfl) rfl rfl (ro_fieldAddr fa56_1 rfl) rfl (fun _ _ _ h => h) ?_
                            refine any_ro' (i := 2) (by kernel_rfl) rfl rfl (ro_load sc9 rfl (Rd.pick 0 rfl (Rd.own rfl))) rfl (fun _ _ _ h => h) ?_
                            refine any_ro' (i := 4) (by kernel_rfl) rfl rfl (ro_fieldAddr fa56_2 rfl) rfl (fun _ _ _ h => h) ?_
                            refine any_ro' (i := 5) (by kernel_rfl) rfl rfl (ro_load sc9 rfl (Rd.pick 0 rfl (Rd.own rfl))) rfl (fun _ _ _ h => h) ?_
                            refine any_eff' (i := 3) (by kernel_rfl) rfl rfl (eff_callM (Pre := []) Try.call44 rfl rfl (Split.nil _) (qwText _ _ l0 (Vw.pick 0 rfl Vw.row) (by omega) c.pa (by omega))) rfl ?_
                            rintro _ H' ⟨_, ⟨p123, c123, rfl, rfl⟩, hH⟩
                            simp only [List.cons_append, List.nil_append, List.eraseIdx_cons_zero, List.eraseIdx_cons_succ, List.set_cons_zero, List.set_cons_succ] at hH
                            subst hH
                            obtain ⟨z123, hz123⟩ : ∃ z, z = l0 ++ be c.pa.length 4 ++ c.pa := ⟨_, rfl⟩
                            rw [← hz123]
                            have hzl123 : z123.length ≤ 400 := by rw [hz123]; simp only [List.length_append, be_length]; omega
                            refine any_eff' (i := 6) (by kernel_rfl) rfl rfl (eff_callM (Pre := []) Try.call44 rfl rfl (Split.nil _) (qwText _ _ z123 (Vw.pick 0 rfl Vw.row) (by omega) c.to (by omega))) rfl ?_
                            rintro _ H' ⟨_, ⟨p126, c126, rfl, rfl⟩, hH⟩
                            simp only [List.cons_append, List.nil_append, List.eraseIdx_cons_zero, List.eraseIdx_cons_succ, List.set_cons_zero, List.set_cons_succ] at hH
                            subst hH
                            obtain ⟨z126, hz126⟩ : ∃ z, z = z123 ++ be c.to.length 4 ++ c.to := ⟨_, rfl⟩
                            rw [← hz126]
                            have hzl126 : z126.length ≤ 800 := by rw [hz126]; simp only [List.length_append, be_length]; omega
                            refine any_unlock (m' := 8) (L' := []) (by kernel_rfl) unlock ?_
                            simp only [List.cons_append, List.nil_append, List.append_nil]
                            refine any_ro' (i := 7) (by kernel_rfl) rfl rfl (ro_assign rfl) rfl (fun _ _ _ h => h) ?_
                            refine any_doneH (by kernel_rfl) ?_
                            refine Then_normal ?_
                            refine wp_region' ?_
                            refine ops_ro' rfl (ro_fieldAddr fa56_1 rfl) rfl ?_
                            refine ops_ro' rfl (ro_load sc9 rfl (Rd.pick 0 rfl (Rd.own rfl))) rfl ?_
                            refine ops_ro' rfl (ro_lenS (t' := 0) Try.underlying9 rfl) rfl ?_
                            refine ops_ro' rfl (ro_gtr rfl rfl rfl) rfl ?_
                            refine ops_split rfl rfl rfl (fun hg131 => ?_) (fun hg131 => ?_)
                            · replace hg131 := of_decide_eq_true hg131
                              refine ops_skip' rfl rfl ?_
                              refine ops_skip' rfl rfl ?_
                              refine ops_skip' rfl rfl ?_
                              refine ops_skip' rfl rfl ?_
                              refine ops_ro' rfl (ro_pick rfl rfl) rfl ?_
                              refine ops_ro' rfl (ro_assign rfl) rfl ?_
                              refine ops_nil ?_
                              refine InBlock_normal ?_
                              refine Then_normal ?_
                              refine over_cut (kept ⟨p126, c126, z126, true, false, ⟨by rw [(show axOf c.k = (⟨true, true, false, false, false, false, false, false⟩, true) from by unfold axOf; rw [if_neg (by omega)]; rw [if_neg (by omega)]; rw [if_neg (by omega)]; rw [if_neg (by omega)]; rw [if_neg (by omega)]; rw [if_neg (by omega)]; rw [if_neg (by omega)]; rw [if_pos (by omega)]), hz126, hz123]; simp only [midB, opt, txB, if_true, Bool.false_eq_true, if_false, List.append_assoc, List.nil_append, List.append_nil], by rw [(show axOf c.k = (⟨true, true, false, false, false, false, false, false⟩, true) from by unfold axOf; rw [if_neg (by omega)]; rw [if_neg (by omega)]; rw [if_neg (by omega)]; rw [if_neg (by omega)]; rw [if_neg (by omega)]; rw [if_neg (by omega)]; rw [if_neg (by omega)]; rw [if_pos (by omega)])]; simp only [LongQ, true_and, false_and, Bool.false_eq_true, or_false, false_or]; first | exact lq3 (by omega) | exact ⟨fun _ => .inl (by omega), fun _ => trivial⟩, by rw [(show axOf c.k = (⟨true, true, false, false, false, false, false, false⟩, true) from by unfold axOf; rw [if_neg (by omega)]; rw [if_neg (by omega)]; rw [if_neg (by omega)]; rw [if_neg (by omega)]; rw [if_neg (by omega)]; rw [if_neg (by omega)]; rw [if_neg (by omega)]; rw [if_pos (by omega)])], by omega⟩, rfl, rfl⟩ ?_ ?_ ?_)
                              · exact (by repeat (first | exact Has.nil _ | refine Has.cons rfl ?_))
                              · exact (by repeat (first | exact Has.nil _ | refine Has.cons rfl ?_))
                              · exact (SubH.cons 0 rfl (SubH.cons 1 rfl (SubH.cons 0 rfl (SubH.nil _))))
                            · replace hg131 := of_decide_eq_false hg131
                              refine ops_ro' rfl (ro_fieldAddr fa56_2 rfl) rfl ?_
                              refine ops_ro' rfl (ro_load sc9 rfl (Rd.pick 0 rfl (Rd.own rfl))) rfl ?_
                              refine ops_ro' rfl (ro_lenS (t' := 0) Try.underlying9 rfl) rfl ?_
                              refine ops_ro' rfl (ro_gtr rfl rfl rfl) rfl ?_
                              refine ops_ro' rfl (ro_pick rfl rfl) rfl ?_
                              refine ops_ro' rfl (ro_assign rfl) rfl ?_
                              refine ops_nil ?_
                              refine InBlock_normal ?_
                              refine Then_normal ?_
                              refine over_cut (kept ⟨p126, c126, z126, decide ((256 : Int) < (c.to.length : Int)), false, ⟨by rw [(show axOf c.k = (⟨true, true, false, false, false, false, false, false⟩, true) from by unfold axOf; rw [if_neg (by omega)]; rw [if_neg (by omega)]; rw [if_neg (by omega)]; rw [if_neg (by omega)]; rw [if_neg (by omega)]; rw [if_neg (by omega)]; rw [if_neg (by omega)]; rw [if_pos (by omega)]), hz126, hz123]; simp only [midB, opt, txB, if_true, Bool.false_eq_true, if_false, List.append_assoc, List.nil_append, List.append_nil], by rw [(show axOf c.k = (⟨true, true, false, false, false, false, false, false⟩, true) from by unfold axOf; rw [if_neg (by omega)]; rw [if_neg (by omega)]; rw [if_neg (by omega)]; rw [if_neg (by omega)]; rw [if_neg (by omega)]; rw [if_neg (by omega)]; rw [if_neg (by omega)]; rw [if_pos (by omega)])]; simp only [LongQ, true_and, false_and, Bool.false_eq_true, or_false, false_or]; exact lq2 rfl (by omega), by rw [(show axOf c.k = (⟨true, true, false, false, false, false, false, false⟩, true) from by unfold axOf; rw [if_neg (by omega)]; rw [if_neg (by omega)]; rw [if_neg (by omega)]; rw [if_neg (by omega)]; rw [if_neg (by omega)]; rw [if_neg (by omega)]; rw [if_neg (by omega)]; rw [if_pos (by omega)])], by omega⟩, rfl, rfl⟩ ?_ ?_ ?_)
                              · exact (by repeat (first | exact Has.nil _ | refine Has.cons rfl ?_))
                              · exact (by repeat (first | exact Has.nil _ | refine Has.cons rfl ?_))
                              · exact (SubH.cons 0 rfl (SubH.cons 1 rfl (SubH.cons 0 rfl (SubH.nil _))))
                          · replace hc118 := of_decide_eq_false hc118
                            refine wp_seq' ?_
                            refine wp_region' ?_
                            refine ops_ro' rfl (ro_move rfl) rfl ?_
                            refine ops_ro' rfl (ro_fieldAddr fa56_1 rfl) rfl ?_
                            refine ops_ro' rfl (ro_load sc9 rfl (Rd.pick 2 rfl (Rd.own rfl))) rfl ?_
                            refine ops_eff' rfl (eff_callM (Pre := []) Try.call44 rfl rfl (Split.nil _) (qwText _ _ l0 (Vw.pick 0 rfl Vw.row) (by omega) c.pa (by omega))) rfl ?_
                            rintro _ H' ⟨_, ⟨p28, c28, rfl, rfl⟩, hH⟩
                            simp only [List.cons_append, List.nil_append, List.eraseIdx_cons_zero, List.eraseIdx_cons_succ, List.set_cons_zero, List.set_cons_succ] at hH
                            subst hH
                            obtain ⟨z28, hz28⟩ : ∃ z, z = l0 ++ be c.pa.length 4 ++ c.pa := ⟨_, rfl⟩
                            rw [← hz28]
                            have hzl28 : z28.length ≤ 400 := by rw [hz28]; simp only [List.length_append, be_length]; omega
                            refine ops_ro' rfl (ro_assign rfl) rfl ?_
                            refine ops_nil ?_
                            refine Then_normal ?_
                            refine wp_region' ?_
                            refine ops_ro' rfl (ro_fieldAddr fa56_1 rfl) rfl ?_
                            refine ops_ro' rfl (ro_load sc9 rfl (Rd.pick 3 rfl (Rd.own rfl))) rfl ?_
                            refine ops_ro' rfl (ro_lenS (t' := 0) Try.underlying9 rfl) rfl ?_
                            refine ops_ro' rfl (ro_gtr rfl rfl rfl) rfl ?_
                            refine ops_ro' rfl (ro_assign rfl) rfl ?_
                            refine ops_nil ?_
                            refine InBlock_normal ?_
                            refine Then_normal ?_
                            refine over_cut (kept ⟨p28, c28, z28, decide ((256 : Int) < (c.pa.length : Int)), false, ⟨by rw [(show axOf c.k = (⟨true, false, false, false, false, false, false, false⟩, true) from by unfold axOf; rw [if_neg (by omega)]; rw [if_neg (by omega)]; rw [if_neg (by omega)]; rw [if_neg (by omega)]; rw [if_pos (by omega)]), hz28]; simp only [midB, opt, txB, if_true, Bool.false_eq_true, if_false, List.append_assoc, List.nil_append, List.append_nil], by rw [(show axOf c.k = (⟨true, false, false, false, false, false, false, false⟩, true) from by unfold axOf; rw [if_neg (by omega)]; rw [if_neg (by omega)]; rw [if_neg (by omega)]; rw [if_neg (by omega)]; rw [if_pos (by omega)])]; simp only [LongQ, true_and, false_and, Bool.false_eq_true, or_false, false_or]; exact lq1, by rw [(show axOf c.k = (⟨true, false, false, false, false, false, false, false⟩, true) from by unfold axOf; rw [if_neg (by omega)]; rw [if_neg (by omega)]; rw [if_neg (by omega)]; rw [if_neg (by omega)]; rw [if_pos (by omega)])], by omega⟩, rfl, rfl⟩ ?_ ?_ ?_)
                            · exact (by repeat (first | exact Has.nil _ | refine Has.cons rfl ?_))
                            · exact (by repeat (first | exact Has.nil _ | refine Has.cons rfl ?_))
                            · exact (SubH.cons 3 rfl (SubH.cons 0 rfl (SubH.cons 2 rfl (SubH.nil _))))
      · rintro Δ LL ⟨p1, c1, l1, lg, fm, ⟨e1, hlg, hfm, n1⟩, rfl, rfl⟩
        simp only [List.cons_append, List.nil_append]
        refine wp_cutK 1040 (fun Δ LL => ∃ (p2 : Option Addr) (c2 : Nat) (l2 : List UInt8), (l2 = l1 ++ opt (axOf c.k).1.at' c.at'.enc ∧ ((axOf c.k).1.at' = true → c.at'.right = true)) ∧ Δ = [(6, .slice p2 l2.length c2)] ∧ LL = [own b3 (.cells (c.cs dp dn).toArray 56 (0, 0)), row 5 1 (.slice p2 l2.length c2) l2.length (cel l2), V]) (Has.cons (k := 7) rfl (Has.nil _)) ?_ ?_
        · refine wp_seq' ?_
          have hax := ax_in (k := c.k) (by omega)
          refine wp_region' ?_
          refine ops_ro' rfl (ro_move rfl) rfl ?_
          refine ops_nil ?_
          refine Then_normal ?_
          refine wp_cond' rfl (fun hc137 => ?_) (fun hc137 => ?_)
          · skip
            refine wp_seq' ?_
            refine wp_seq' ?_
            refine wp_region' ?_
            refine ops_ro' rfl (ro_fieldAddr fa56_8 rfl) rfl ?_
            refine ops_ro' rfl (ro_loadA ag54 rfl (RdN.of_pick 0 rfl (rdn_sub 7)) rfl) rfl ?_
            refine ops_eff' rfl (eff_call Try.call70 rfl rfl (by repeat (first | exact Split.nil _ | apply Split.cons 0 rfl | apply Split.cons 1 rfl | apply Split.cons 2 rfl | apply Split.cons 3 rfl | apply Split.cons 4 rfl | apply Split.cons 5 rfl | apply Split.cons 6 rfl | apply Split.cons 7 rfl | apply Split.cons 8 rfl | apply Split.cons 9 rfl | apply Split.cons 10 rfl | apply Split.cons 11 rfl)) (q14right c.at' hk.at')) rfl ?_
            rintro _ H' ⟨_, ⟨rfl, rfl⟩, hH⟩
            simp only [List.cons_append, List.nil_append, List.eraseIdx_cons_zero, List.eraseIdx_cons_succ, List.set_cons_zero, List.set_cons_succ] at hH
            subst hH
            refine ops_ro' rfl (ro_not rfl rfl) rfl ?_
            refine ops_nil ?_
            refine Then_normal ?_
            refine wp_cond' rfl (fun hc141 => ?_) (fun hc141 => ?_)
            · simp only [Bool.and_eq_true, decide_eq_true_eq, Bool.not_eq_true', decide_eq_false_iff_not, bne_iff_ne, ne_eq] at hc141
              refine wp_seq' ?_
              refine wp_region' ?_
              refine ops_ro' rfl (ro_assign rfl) rfl ?_
              refine ops_ro' rfl (ro_assign rfl) rfl ?_
              refine ops_nil ?_
              refine Then_normal ?_
              refine wp_ret' ?_
              refine Then_ret ?_
              refine Then_ret ?_
              refine' doneS_ret (res2 rfl rfl rfl) ?_ ?_
              rotate_left 1
              have HE : encE (axOf c.k) c = 12 := by unfold encE; rw [if_neg (by rw [hax]; decide), if_pos ⟨by rw [← hfm]; assumption, by simp_all⟩]
              have HB : encB (axOf c.k) id c = [] := by unfold encB; rw [if_neg (by rw [HE]; decide)]
              rw [HE, HB]
              exact ⟨_, ⟨none, 0, rfl, rfl⟩, rfl⟩
              exact (SubH.rown (SubH.cons 2 rfl (SubH.nil _)))
            · simp only [Bool.and_eq_false_iff, decide_eq_false_iff_not, Bool.not_eq_false', decide_eq_true_eq] at hc141
              refine wp_skip' ?_
              refine Then_normal ?_
              refine wp_region' ?_
              refine ops_ro' rfl (ro_move rfl) rfl ?_
              refine ops_ro' rfl (ro_fieldAddr fa56_8 rfl) rfl ?_
              refine ops_ro' rfl (ro_loadA ag54 rfl (RdN.of_pick 0 rfl (rdn_sub 7)) rfl) rfl ?_
              refine ops_eff' rfl (eff_callM (Pre := []) Try.call71 rfl rfl (Split.nil _) (q14put _ _ l1 (by first | exact (Vw.pick 0 rfl hV) | exact (Vw.pick 1 rfl hV) | exact (Vw.pick 2 rfl hV) | exact (Vw.pick 3 rfl hV) | exact (Vw.pick 4 rfl hV) | exact (Vw.pick 5 rfl hV) | exact (Vw.pick 6 rfl hV) | exact Vw.pick 0 rfl Vw.row | exact Vw.pick 1 rfl Vw.row | exact Vw.pick 2 rfl Vw.row | exact Vw.pick 3 rfl Vw.row | exact Vw.pick 4 rfl Vw.row | exact Vw.pick 5 rfl Vw.row | exact Vw.pick 6 rfl Vw.row | exact Vw.nil _ | exact Vw.empty _ _) (by omega) c.at' hk.at')) rfl ?_
              rintro _ H' ⟨_, ⟨p145, c145, rfl, rfl⟩, hH⟩
              simp only [List.cons_append, List.nil_append, List.eraseIdx_cons_zero, List.eraseIdx_cons_succ, List.set_cons_zero, List.set_cons_succ] at hH
              subst hH
              obtain ⟨z145, hz145⟩ : ∃ z, z = l1 ++ c.at'.enc := ⟨_, rfl⟩
              rw [← hz145]
              refine ops_ro' rfl (ro_assign rfl) rfl ?_
              refine ops_nil ?_
              refine Then_normal ?_
              refine over_cut (kept ⟨p145, c145, z145, ⟨by rw [opt_t (by rw [← hfm]; assumption), hz145], fun _ => (by simp_all)⟩, rfl, rfl⟩ ?_ ?_ ?_)
              · exact (by repeat (first | exact Has.nil _ | refine Has.cons rfl ?_))
              · exact (by repeat (first | exact Has.nil _ | refine Has.cons rfl ?_))
              · exact (SubH.cons 1 rfl (SubH.cons 0 rfl (SubH.cons 1 rfl (SubH.nil _))))
          · skip
            refine wp_skip' ?_
            refine Then_normal ?_
            refine over_cut (kept ⟨p1, c1, l1, ⟨by rw [opt_f (by rw [← hfm]; simp_all), List.append_nil], fun h => absurd h (by rw [← hfm]; simp_all)⟩, rfl, rfl⟩ ?_ ?_ ?_)
            · exact (by repeat (first | exact Has.nil _ | refine Has.cons rfl ?_))
            · exact (by repeat (first | exact Has.nil _ | refine Has.cons rfl ?_))
            · exact SubH.refl _
        · rintro Δ LL ⟨p2, c2, l2, ⟨e2, hrt⟩, rfl, rfl⟩
          simp only [List.cons_append, List.nil_append]
          refine wp_seq' ?_
          refine wp_seq' ?_
          have hax := ax_in (k := c.k) (by omega)
          unfold LongQ at hlg
          refine wp_region' ?_
          refine ops_ro' rfl (ro_move rfl) rfl ?_
          refine ops_nil ?_
          refine Then_normal ?_
          refine wp_cond' rfl (fun hc146 => ?_) (fun hc146 => ?_)
          · skip
            refine wp_seq' ?_
            refine wp_region' ?_
            refine ops_ro' rfl (ro_assign rfl) rfl ?_
            refine ops_ro' rfl (ro_assign rfl) rfl ?_
            refine ops_nil ?_
            refine Then_normal ?_
            refine wp_ret' ?_
            refine Then_ret ?_
            refine' doneS_ret (res2 rfl rfl rfl) ?_ ?_
            rotate_left 1
            have HE : encE (axOf c.k) c = 3 := by unfold encE; rw [if_neg (by rw [hax]; decide), if_neg (by rintro ⟨h1, h2⟩; rw [hrt h1] at h2; cases h2), if_pos (hlg.1 (by assumption))]
            have HB : encB (axOf c.k) id c = [] := by unfold encB; rw [if_neg (by rw [HE]; decide)]
            rw [HE, HB]
            exact ⟨_, ⟨none, 0, rfl, rfl⟩, rfl⟩
            exact (SubH.rown (SubH.cons 2 rfl (SubH.nil _)))
          · skip
            refine wp_skip' ?_
            refine Then_normal ?_
            refine wp_seq' ?_
            refine wp_region' ?_
            refine ops_ro' rfl (ro_move rfl) rfl ?_
            refine ops_ro' rfl (ro_assign rfl) rfl ?_
            refine ops_ro' rfl (ro_assign rfl) rfl ?_
            refine ops_nil ?_
            refine Then_normal ?_
            refine wp_ret' ?_
            refine' doneS_ret (res2 rfl rfl rfl) ?_ ?_
            rotate_left 1
            have HE : encE (axOf c.k) c = 0 := by unfold encE; rw [if_neg (by rw [hax]; decide), if_neg (by rintro ⟨h1, h2⟩; rw [hrt h1] at h2; cases h2), if_neg (fun h => absurd (hlg.2 h) (by simp_all))]
            have HB : encB (axOf c.k) id c = l2 := by unfold encB; rw [if_pos HE, reqB_mid, e2, e1, hl0]
            rw [HE, HB]
            exact ⟨_, ⟨p2, c2, rfl, rfl⟩, rfl⟩
            exact (SubH.cons 1 rfl (SubH.cons 1 rfl (SubH.nil _)))

end Go.Proofs.Ytigaolglnnjnmaa
