/-
  Package sftp: requests read.
-/
import Derived.Test.YtigaolglnnjnmaaSfA
import Derived.Test.YtigaolglnnjnmaaAuthC
namespace Go.Proofs.Ytigaolglnnjnmaa
open Go.Sx
set_option linter.unusedVariables false
set_option linter.unusedSimpArgs false
set_option maxRecDepth 100000
set_option maxHeartbeats 4000000
def d1 (a : Ax) (s : R × Rc) : R × Rc := if a.pa = true then ((s.1.text 256).1, { s.2 with pa := (s.1.text 256).2 }) else s
def d2 (a : Ax) (s : R × Rc) : R × Rc := if a.to = true then ((s.1.text 256).1, { s.2 with to := (s.1.text 256).2 }) else s
def d3 (a : Ax) (s : R × Rc) : R × Rc := if a.ha = true then ((s.1.text 256).1, { s.2 with ha := (s.1.text 256).2 }) else s
def d4 (a : Ax) (s : R × Rc) : R × Rc := if a.off = true then ((s.1.get 8).1, { s.2 with off := (s.1.get 8).2 }) else s
def d5 (a : Ax) (s : R × Rc) : R × Rc := if a.len = true then ((s.1.get 4).1, { s.2 with len := (s.1.get 4).2 }) else s
def d6 (a : Ax) (s : R × Rc) : R × Rc := if a.da = true then ((s.1.text 32768).1, { s.2 with da := (s.1.text 32768).2 }) else s
def d7 (a : Ax) (s : R × Rc) : R × Rc := if a.fl = true then ((s.1.get 4).1, { s.2 with fl := (s.1.get 4).2 }) else s
def d8 (a : Ax) (s : R × Rc) : R × Rc := if a.at' = true then ((s.1.attrs).1, { s.2 with at' := (s.1.attrs).2 }) else s

def decAll (a : Ax) (s : R × Rc) : R × Rc := d8 a (d7 a (d6 a (d5 a (d4 a (d3 a (d2 a (d1 a s)))))))
/-- bytes as a request -/
def decQ (b : List UInt8) : Nat × Rc × Int :=
  if b.length < 5 then (0, Rc.zero, 10) else if (axOf ((R.new b).get 1).2).2 = false then ((((R.new b).get 1).1.get 4).2, Rc.zero, 23)
  else if (decAll (axOf ((R.new b).get 1).2).1 ((((R.new b).get 1).1.get 4).1, { Rc.zero with k := ((R.new b).get 1).2 })).1.fin.1 = 0 then ((((R.new b).get 1).1.get 4).2, (decAll (axOf ((R.new b).get 1).2).1 ((((R.new b).get 1).1.get 4).1, { Rc.zero with k := ((R.new b).get 1).2 })).2, 0)
  else ((((R.new b).get 1).1.get 4).2, Rc.zero, 12)
theorem good_attrs {r : R} (h : r.Good) : r.attrs.1.Good := by
  have h1 := R.good_get h 4
  have hg : (R.gate (r.get 4).1 (r.get 4).2).Good := by
    unfold R.gate; split
    · exact R.good_fail h1 _
    · exact h1
  have a1 : ∀ q : R × At, q.1.Good → (R.s1 q).1.Good := fun q h => by unfold R.s1; split; exact R.good_get h 8; exact h
  have a2 : ∀ q : R × At, q.1.Good → (R.s2 q).1.Good := fun q h => by unfold R.s2; split; exact R.good_get (R.good_get h 4) 4; exact h
  have a3 : ∀ q : R × At, q.1.Good → (R.s3 q).1.Good := fun q h => by unfold R.s3; split; exact R.good_get h 4; exact h
  have a4 : ∀ q : R × At, q.1.Good → (R.s4 q).1.Good := fun q h => by unfold R.s4; split; exact R.good_get (R.good_get h 4) 4; exact h
  have hb : ∀ (q : R) (x : At), q.Good → (q.body x).1.Good := fun q x h => a4 _ (a3 _ (a2 _ (a1 _ h)))
  unfold R.attrs
  split
  · exact hg
  · split
    · exact hb _ _ hg
    · exact hb _ _ hg
theorem d1_all {a : Ax} {k : Int} {rr0 rr1 rr2 rr3 rr4 rr5 rr6 rr7 rr8 : R} {cc1 cc2 cc3 cc4 cc5 cc6 cc7 cc8 : Rc} (f1 : (rr1, cc1) = d1 a (rr0, { Rc.zero with k := k })) (f2 : (rr2, cc2) = d2 a (rr1, cc1)) (f3 : (rr3, cc3) = d3 a (rr2, cc2)) (f4 : (rr4, cc4) = d4 a (rr3, cc3)) (f5 : (rr5, cc5) = d5 a (rr4, cc4)) (f6 : (rr6, cc6) = d6 a (rr5, cc5)) (f7 : (rr7, cc7) = d7 a (rr6, cc6)) (f8 : (rr8, cc8) = d8 a (rr7, cc7)) :
    decAll a (rr0, { Rc.zero with k := k }) = (rr8, cc8) := by unfold decAll; rw [← f1, ← f2, ← f3, ← f4, ← f5, ← f6, ← f7, ← f8]


theorem sfDec_spec (V : HProp) (p : Option Addr) (c : Nat) (b : List UInt8) (hV : Vw V (.slice p b.length c) b.length (cel b)) (hb : b.length ≤ 140737488355328) : Tri Try.prog 28 [.slice p b.length c] [V]
    (fun v H' => ∃ dp dn, v = .tuple #[.int .u32 ((decQ b).1 : Int), (decQ b).2.1.v dp dn, .int .i64 (decQ b).2.2] ∧ H' = [row 5 1 (.slice dp (decQ b).2.1.da.length dn) (decQ b).2.1.da.length (cel (decQ b).2.1.da), V]) := by
  refine tri_of_wpS Try.func28 rfl Try.ntmps28 (by simp) ?_
  refine wp_seq' ?_
  refine wp_region' ?_
  refine ops_ro' rfl (ro_assign rfl) rfl ?_
  refine ops_eff' rfl (eff_alloc z56) rfl ?_
  rintro _ _ ⟨b3, rfl, rfl⟩
  refine ops_ro' rfl (ro_assign rfl) rfl ?_
  refine ops_nil ?_
  refine Then_normal ?_
  refine wp_seq' ?_
  refine wp_seq' ?_
  refine wp_region' ?_
  refine ops_ro' rfl (ro_move rfl) rfl ?_
  refine ops_ro' rfl (ro_sliceLen Try.underlying32 rfl) rfl ?_
  refine ops_ro' rfl (ro_lss rfl rfl rfl) rfl ?_
  refine ops_nil ?_
  refine Then_normal ?_
  refine wp_cond' rfl (fun hc12 => ?_) (fun hc12 => ?_)
  · replace hc12 := of_decide_eq_true hc12
    refine wp_seq' ?_
    refine wp_region' ?_
    refine ops_ro' rfl (ro_build rfl (bld_struct (cs := Rc.zero.cs none 0) st56 rfl)) rfl ?_
    refine ops_ro' rfl (ro_assign rfl) rfl ?_
    refine ops_eff0 rfl (eff_storeA 0 ag56 rfl rfl rfl rfl rfl (Nat.le_of_ble_eq_true rfl) (warm_zero _)) rfl ?_
    rintro _ _ rfl
    refine ops_ro' rfl (ro_assign rfl) rfl ?_
    refine ops_nil ?_
    refine Then_normal ?_
    refine wp_ret' ?_
    refine Then_ret ?_
    refine' doneS_ret (resv3 rfl (rv_tmp rfl) (rv_cellA ag56 rfl (by first | exact RdN.of_pick 0 rfl rdn_all | exact RdN.of_pick 1 rfl rdn_all | exact RdN.of_pick 2 rfl rdn_all | exact RdN.of_pick 3 rfl rdn_all | exact RdN.of_pick 4 rfl rdn_all | exact RdN.of_pick 5 rfl rdn_all | exact RdN.of_pick 6 rfl rdn_all | exact RdN.of_pick 7 rfl rdn_all | exact RdN.of_pick 8 rfl rdn_all) rfl) (rv_tmp rfl)) ?_ ?_
    rotate_left 1
    have HX : decQ b = (0, Rc.zero, 10) := by unfold decQ; rw [if_pos (by omega)]
    rw [HX]
    exact ⟨none, 0, rfl, rfl⟩
    exact (SubH.rown (SubH.cons 1 rfl (SubH.nil _)))
  · replace hc12 := of_decide_eq_false hc12
    refine wp_skip' ?_
    refine Then_normal ?_
    refine wp_seq' ?_
    refine wp_region' ?_
    refine ops_ro' rfl (ro_move rfl) rfl ?_
    refine ops_eff' rfl (eff_call Try.call55 rfl rfl (by repeat (first | exact Split.nil _ | apply Split.cons 0 rfl | apply Split.cons 1 rfl | apply Split.cons 2 rfl | apply Split.cons 3 rfl | apply Split.cons 4 rfl | apply Split.cons 5 rfl | apply Split.cons 6 rfl | apply Split.cons 7 rfl | apply Split.cons 8 rfl | apply Split.cons 9 rfl | apply Split.cons 10 rfl | apply Split.cons 11 rfl)) (newReader_spec V p c b hV hb)) rfl ?_
    rintro _ H' ⟨_, ⟨pr, q, cr, rfl, rfl⟩, hH⟩
    simp only [List.cons_append, List.nil_append, List.eraseIdx_cons_zero, List.eraseIdx_cons_succ, List.set_cons_zero, List.set_cons_succ] at hH
    subst hH
    have hg00 := R.good_new b hb
    refine ops_ro' rfl (ro_assign rfl) rfl ?_
    refine ops_nil ?_
    refine Then_normal ?_
    refine wp_seq' ?_
    refine wp_region' ?_
    refine ops_ro' rfl (ro_move rfl) rfl ?_
    refine ops_eff' rfl (eff_call Try.call59 rfl rfl (by repeat (first | exact Split.nil _ | apply Split.cons 0 rfl | apply Split.cons 1 rfl | apply Split.cons 2 rfl | apply Split.cons 3 rfl | apply Split.cons 4 rfl | apply Split.cons 5 rfl | apply Split.cons 6 rfl | apply Split.cons 7 rfl | apply Split.cons 8 rfl | apply Split.cons 9 rfl | apply Split.cons 10 rfl | apply Split.cons 11 rfl)) (rByte_spec pr q cr (R.new b) hg00)) rfl ?_
    rintro _ H' ⟨_, ⟨rfl, rfl⟩, hH⟩
    simp only [List.cons_append, List.nil_append, List.eraseIdx_cons_zero, List.eraseIdx_cons_succ, List.set_cons_zero, List.set_cons_succ] at hH
    subst hH
    have hg01 := R.good_get hg00 1
    generalize e1 : (R.new b).get 1 = t1 at *
    obtain ⟨r1, k⟩ := t1
    simp only at *
    refine ops_ro' rfl (ro_build rfl (bld_struct (cs := Rc.cs { Rc.zero with k := (k : Int) } none 0) st56 rfl)) rfl ?_
    refine ops_eff' rfl (eff_alloc z56) rfl ?_
    rintro _ _ ⟨b6, rfl, rfl⟩
    refine ops_eff0 rfl (eff_storeA 0 ag56 rfl rfl rfl rfl rfl (Nat.le_of_ble_eq_true rfl) (warm_zero _)) rfl ?_
    rintro _ _ rfl
    refine ops_nil ?_
    refine Then_normal ?_
    refine wp_seq' ?_
    refine wp_region' ?_
    refine ops_ro' rfl (ro_move rfl) rfl ?_
    refine ops_eff' rfl (eff_call Try.call60 rfl rfl (by repeat (first | exact Split.nil _ | apply Split.cons 0 rfl | apply Split.cons 1 rfl | apply Split.cons 2 rfl | apply Split.cons 3 rfl | apply Split.cons 4 rfl | apply Split.cons 5 rfl | apply Split.cons 6 rfl | apply Split.cons 7 rfl | apply Split.cons 8 rfl | apply Split.cons 9 rfl | apply Split.cons 10 rfl | apply Split.cons 11 rfl)) (rU32_spec pr q cr r1 hg01.len hg01.pos)) rfl ?_
    rintro _ H' ⟨_, ⟨rfl, rfl⟩, hH⟩
    simp only [List.cons_append, List.nil_append, List.eraseIdx_cons_zero, List.eraseIdx_cons_succ, List.set_cons_zero, List.set_cons_succ] at hH
    subst hH
    have hg0 := R.good_get hg01 4
    generalize e2 : r1.get 4 = t2 at *
    obtain ⟨rr0, id⟩ := t2
    simp only at *
    refine ops_ro' rfl (ro_assign rfl) rfl ?_
    refine ops_nil ?_
    refine Then_normal ?_
    refine wp_seq' ?_
    refine wp_region' ?_
    refine ops_ro' rfl (ro_fieldAddr fa56_0 rfl) rfl ?_
    refine ops_ro' rfl (ro_load sc3 rfl (Rd.pick 2 rfl (Rd.own rfl))) rfl ?_
    refine ops_eff' rfl (eff_call Try.call61 rfl rfl (by repeat (first | exact Split.nil _ | apply Split.cons 0 rfl | apply Split.cons 1 rfl | apply Split.cons 2 rfl | apply Split.cons 3 rfl | apply Split.cons 4 rfl | apply Split.cons 5 rfl | apply Split.cons 6 rfl | apply Split.cons 7 rfl | apply Split.cons 8 rfl | apply Split.cons 9 rfl | apply Split.cons 10 rfl | apply Split.cons 11 rfl)) (sfOf_spec (k : Int))) rfl ?_
    rintro _ H' ⟨_, ⟨rfl, rfl⟩, hH⟩
    simp only [List.cons_append, List.nil_append, List.eraseIdx_cons_zero, List.eraseIdx_cons_succ, List.set_cons_zero, List.set_cons_succ] at hH
    subst hH
    obtain ⟨⟨a, ok⟩, ha⟩ : ∃ z, z = axOf (k : Int) := ⟨_, rfl⟩
    rw [← ha]
    simp only
    refine ops_ro' rfl (ro_move rfl) rfl ?_
    refine ops_ro' rfl (ro_extract rfl rfl) rfl ?_
    refine ops_ro' rfl (ro_extract rfl rfl) rfl ?_
    refine ops_eff' rfl (eff_alloc z107) rfl ?_
    rintro _ _ ⟨b8, rfl, rfl⟩
    refine ops_eff0 rfl (eff_storeA 0 ag107 rfl rfl rfl rfl rfl (Nat.le_of_ble_eq_true rfl) (warm_zero _)) rfl ?_
    rintro _ _ rfl
    refine ops_ro' rfl (ro_assign rfl) rfl ?_
    refine ops_nil ?_
    refine Then_normal ?_
    refine wp_seq' ?_
    refine wp_seq' ?_
    refine wp_region' ?_
    refine ops_ro' rfl (ro_move rfl) rfl ?_
    refine ops_ro' rfl (ro_not rfl rfl) rfl ?_
    refine ops_nil ?_
    refine Then_normal ?_
    refine wp_cond' rfl (fun hc28 => ?_) (fun hc28 => ?_)
    · simp only [Bool.and_eq_true, decide_eq_true_eq, Bool.not_eq_true', decide_eq_false_iff_not, bne_iff_ne, ne_eq] at hc28
      refine wp_seq' ?_
      refine wp_region' ?_
      refine ops_ro' rfl (ro_move rfl) rfl ?_
      refine ops_ro' rfl (ro_build rfl (bld_struct (cs := Rc.zero.cs none 0) st56 rfl)) rfl ?_
      refine ops_ro' rfl (ro_assign rfl) rfl ?_
      refine ops_eff0 rfl (eff_storeA 5 ag56 rfl rfl rfl rfl rfl (Nat.le_of_ble_eq_true rfl) (warm_zero _)) rfl ?_
      rintro _ _ rfl
      refine ops_ro' rfl (ro_assign rfl) rfl ?_
      refine ops_nil ?_
      refine Then_normal ?_
      refine wp_ret' ?_
      refine Then_ret ?_
      refine' doneS_ret (resv3 rfl (rv_tmp rfl) (rv_cellA ag56 rfl (by first | exact RdN.of_pick 0 rfl rdn_all | exact RdN.of_pick 1 rfl rdn_all | exact RdN.of_pick 2 rfl rdn_all | exact RdN.of_pick 3 rfl rdn_all | exact RdN.of_pick 4 rfl rdn_all | exact RdN.of_pick 5 rfl rdn_all | exact RdN.of_pick 6 rfl rdn_all | exact RdN.of_pick 7 rfl rdn_all | exact RdN.of_pick 8 rfl rdn_all) rfl) (rv_tmp rfl)) ?_ ?_
      rotate_left 1
      have HX : decQ b = (id, Rc.zero, 23) := by
        unfold decQ
        rw [if_neg (by omega), e1]
        simp only
        rw [e2, ← ha]
        simp only
        rw [if_pos (by simp_all)]
      rw [HX]
      exact ⟨none, 0, rfl, rfl⟩
      exact (SubH.rown (SubH.cons 4 rfl (SubH.nil _)))
    · simp only [Bool.and_eq_false_iff, decide_eq_false_iff_not, Bool.not_eq_false', decide_eq_true_eq] at hc28
      refine wp_skip' ?_
      refine Then_normal ?_
      refine wp_cutK 1011 (fun Δ LL => ∃ (rr1 : R) (cc1 : Rc), ((rr1, cc1) = d1 a (rr0, { Rc.zero with k := (k : Int) }) ∧ rr1.Good) ∧ Δ = [] ∧ LL = [own b6 (.cells (cc1.cs none 0).toArray 56 (0, 0)), own b8 (.cells (a.cs).toArray 107 (0, 0)), own pr (.cells [Value.slice q rr1.b.length cr, .int .i64 rr1.pos, .int .i64 rr1.why, .int .i64 rr1.place].toArray 141 (0, 0)), row 5 1 (.slice q rr1.b.length cr) rr1.b.length (cel rr1.b), row 5 1 (.slice none cc1.da.length 0) cc1.da.length (cel cc1.da), own b3 (.cells (Rc.zero.cs none 0).toArray 56 (0, 0)), V]) (Has.cons (k := 3) rfl (Has.cons (k := 5) rfl (Has.cons (k := 6) rfl (Has.cons (k := 7) rfl (Has.cons (k := 8) rfl (Has.nil _)))))) ?_ ?_
      · refine wp_seq' ?_
        refine wp_region' ?_
        refine ops_ro' rfl (ro_fieldAddr fa107_0 rfl) rfl ?_
        refine ops_ro' rfl (ro_load sc4 rfl (Rd.pick 0 rfl (Rd.own rfl))) rfl ?_
        refine ops_nil ?_
        refine Then_normal ?_
        refine wp_cond' rfl (fun hc32 => ?_) (fun hc32 => ?_)
        · skip
          refine wp_region' ?_
          refine ops_ro' rfl (ro_move rfl) rfl ?_
          refine ops_eff' rfl (eff_call Try.call62 rfl rfl (by repeat (first | exact Split.nil _ | apply Split.cons 0 rfl | apply Split.cons 1 rfl | apply Split.cons 2 rfl | apply Split.cons 3 rfl | apply Split.cons 4 rfl | apply Split.cons 5 rfl | apply Split.cons 6 rfl | apply Split.cons 7 rfl | apply Split.cons 8 rfl | apply Split.cons 9 rfl | apply Split.cons 10 rfl | apply Split.cons 11 rfl)) (rText_spec pr q cr rr0 hg0 256 (by decide))) rfl ?_
          rintro _ H' ⟨_, ⟨rfl, rfl⟩, hH⟩
          simp only [List.cons_append, List.nil_append, List.eraseIdx_cons_zero, List.eraseIdx_cons_succ, List.set_cons_zero, List.set_cons_succ] at hH
          subst hH
          refine ops_ro' rfl (ro_fieldAddr fa56_1 rfl) rfl ?_
          refine ops_eff0 rfl (eff_store 3 sc9 rfl rfl rfl rfl (Nat.le_of_ble_eq_true rfl) (warm_zero _)) rfl ?_
          rintro _ _ rfl
          refine ops_nil ?_
          refine Then_normal ?_
          refine over_cut (kept ⟨(rr0.text 256).1, { Rc.zero with k := (k : Int), pa := (rr0.text 256).2 }, ⟨by unfold d1; rw [if_pos (by assumption)], R.good_text hg0 256⟩, rfl, rfl⟩ ?_ ?_ ?_)
          · exact (by repeat (first | exact Has.nil _ | refine Has.cons rfl ?_))
          · exact (by repeat (first | exact Has.nil _ | refine Has.cons rfl ?_))
          · exact (SubH.cons 3 rfl (SubH.cons 2 rfl (SubH.cons 0 rfl (SubH.cons 0 rfl (SubH.rown (SubH.cons 1 rfl (SubH.cons 0 rfl (SubH.nil _))))))))
        · skip
          refine wp_skip' ?_
          refine Then_normal ?_
          refine over_cut (kept ⟨rr0, { Rc.zero with k := (k : Int) }, ⟨by unfold d1; rw [if_neg (by simp_all)], hg0⟩, rfl, rfl⟩ ?_ ?_ ?_)
          · exact (by repeat (first | exact Has.nil _ | refine Has.cons rfl ?_))
          · exact (by repeat (first | exact Has.nil _ | refine Has.cons rfl ?_))
          · exact (SubH.cons 3 rfl (SubH.cons 0 rfl (SubH.cons 0 rfl (SubH.cons 0 rfl (SubH.rown (SubH.cons 1 rfl (SubH.cons 0 rfl (SubH.nil _))))))))
      · rintro Δ LL ⟨rr1, cc1, ⟨f1, hg1⟩, rfl, rfl⟩
        simp only [List.cons_append, List.nil_append]
        refine wp_cutK 1013 (fun Δ LL => ∃ (rr2 : R) (cc2 : Rc), ((rr2, cc2) = d2 a (rr1, cc1) ∧ rr2.Good) ∧ Δ = [] ∧ LL = [own b6 (.cells (cc2.cs none 0).toArray 56 (0, 0)), own b8 (.cells (a.cs).toArray 107 (0, 0)), own pr (.cells [Value.slice q rr2.b.length cr, .int .i64 rr2.pos, .int .i64 rr2.why, .int .i64 rr2.place].toArray 141 (0, 0)), row 5 1 (.slice q rr2.b.length cr) rr2.b.length (cel rr2.b), row 5 1 (.slice none cc2.da.length 0) cc2.da.length (cel cc2.da), own b3 (.cells (Rc.zero.cs none 0).toArray 56 (0, 0)), V]) (Has.cons (k := 3) rfl (Has.cons (k := 5) rfl (Has.cons (k := 6) rfl (Has.cons (k := 7) rfl (Has.cons (k := 8) rfl (Has.nil _)))))) ?_ ?_
        · refine wp_seq' ?_
          refine wp_region' ?_
          refine ops_ro' rfl (ro_fieldAddr fa107_1 rfl) rfl ?_
          refine ops_ro' rfl (ro_load sc4 rfl (Rd.pick 1 rfl (Rd.own rfl))) rfl ?_
          refine ops_nil ?_
          refine Then_normal ?_
          refine wp_cond' rfl (fun hc37 => ?_) (fun hc37 => ?_)
          · skip
            refine wp_region' ?_
            refine ops_ro' rfl (ro_move rfl) rfl ?_
            refine ops_eff' rfl (eff_call Try.call62 rfl rfl (by repeat (first | exact Split.nil _ | apply Split.cons 0 rfl | apply Split.cons 1 rfl | apply Split.cons 2 rfl | apply Split.cons 3 rfl | apply Split.cons 4 rfl | apply Split.cons 5 rfl | apply Split.cons 6 rfl | apply Split.cons 7 rfl | apply Split.cons 8 rfl | apply Split.cons 9 rfl | apply Split.cons 10 rfl | apply Split.cons 11 rfl)) (rText_spec pr q cr rr1 hg1 256 (by decide))) rfl ?_
            rintro _ H' ⟨_, ⟨rfl, rfl⟩, hH⟩
            simp only [List.cons_append, List.nil_append, List.eraseIdx_cons_zero, List.eraseIdx_cons_succ, List.set_cons_zero, List.set_cons_succ] at hH
            subst hH
            refine ops_ro' rfl (ro_fieldAddr fa56_2 rfl) rfl ?_
            refine ops_eff0 rfl (eff_store 2 sc9 rfl rfl rfl rfl (Nat.le_of_ble_eq_true rfl) (warm_zero _)) rfl ?_
            rintro _ _ rfl
            refine ops_nil ?_
            refine Then_normal ?_
            refine over_cut (kept ⟨(rr1.text 256).1, { cc1 with to := (rr1.text 256).2 }, ⟨by unfold d2; rw [if_pos (by assumption)], R.good_text hg1 256⟩, rfl, rfl⟩ ?_ ?_ ?_)
            · exact (by repeat (first | exact Has.nil _ | refine Has.cons rfl ?_))
            · exact (by repeat (first | exact Has.nil _ | refine Has.cons rfl ?_))
            · exact (SubH.cons 2 rfl (SubH.cons 2 rfl (SubH.cons 0 rfl (SubH.cons 0 rfl (SubH.cons 0 rfl (SubH.cons 0 rfl (SubH.cons 0 rfl (SubH.nil _))))))))
          · skip
            refine wp_skip' ?_
            refine Then_normal ?_
            refine over_cut (kept ⟨rr1, cc1, ⟨by unfold d2; rw [if_neg (by simp_all)], hg1⟩, rfl, rfl⟩ ?_ ?_ ?_)
            · exact (by repeat (first | exact Has.nil _ | refine Has.cons rfl ?_))
            · exact (by repeat (first | exact Has.nil _ | refine Has.cons rfl ?_))
            · exact SubH.refl _
        · rintro Δ LL ⟨rr2, cc2, ⟨f2, hg2⟩, rfl, rfl⟩
          simp only [List.cons_append, List.nil_append]
          refine wp_cutK 1015 (fun Δ LL => ∃ (rr3 : R) (cc3 : Rc), ((rr3, cc3) = d3 a (rr2, cc2) ∧ rr3.Good) ∧ Δ = [] ∧ LL = [own b6 (.cells (cc3.cs none 0).toArray 56 (0, 0)), own b8 (.cells (a.cs).toArray 107 (0, 0)), own pr (.cells [Value.slice q rr3.b.length cr, .int .i64 rr3.pos, .int .i64 rr3.why, .int .i64 rr3.place].toArray 141 (0, 0)), row 5 1 (.slice q rr3.b.length cr) rr3.b.length (cel rr3.b), row 5 1 (.slice none cc3.da.length 0) cc3.da.length (cel cc3.da), own b3 (.cells (Rc.zero.cs none 0).toArray 56 (0, 0)), V]) (Has.cons (k := 3) rfl (Has.cons (k := 5) rfl (Has.cons (k := 6) rfl (Has.cons (k := 7) rfl (Has.cons (k := 8) rfl (Has.nil _)))))) ?_ ?_
          · refine wp_seq' ?_
            refine wp_region' ?_
            refine ops_ro' rfl (ro_fieldAddr fa107_2 rfl) rfl ?_
            refine ops_ro' rfl (ro_load sc4 rfl (Rd.pick 1 rfl (Rd.own rfl))) rfl ?_
            refine ops_nil ?_
            refine Then_normal ?_
            refine wp_cond' rfl (fun hc42 => ?_) (fun hc42 => ?_)
            · skip
              refine wp_region' ?_
              refine ops_ro' rfl (ro_move rfl) rfl ?_
              refine ops_eff' rfl (eff_call Try.call62 rfl rfl (by repeat (first | exact Split.nil _ | apply Split.cons 0 rfl | apply Split.cons 1 rfl | apply Split.cons 2 rfl | apply Split.cons 3 rfl | apply Split.cons 4 rfl | apply Split.cons 5 rfl | apply Split.cons 6 rfl | apply Split.cons 7 rfl | apply Split.cons 8 rfl | apply Split.cons 9 rfl | apply Split.cons 10 rfl | apply Split.cons 11 rfl)) (rText_spec pr q cr rr2 hg2 256 (by decide))) rfl ?_
              rintro _ H' ⟨_, ⟨rfl, rfl⟩, hH⟩
              simp only [List.cons_append, List.nil_append, List.eraseIdx_cons_zero, List.eraseIdx_cons_succ, List.set_cons_zero, List.set_cons_succ] at hH
              subst hH
              refine ops_ro' rfl (ro_fieldAddr fa56_3 rfl) rfl ?_
              refine ops_eff0 rfl (eff_store 2 sc9 rfl rfl rfl rfl (Nat.le_of_ble_eq_true rfl) (warm_zero _)) rfl ?_
              rintro _ _ rfl
              refine ops_nil ?_
              refine Then_normal ?_
              refine over_cut (kept ⟨(rr2.text 256).1, { cc2 with ha := (rr2.text 256).2 }, ⟨by unfold d3; rw [if_pos (by assumption)], R.good_text hg2 256⟩, rfl, rfl⟩ ?_ ?_ ?_)
              · exact (by repeat (first | exact Has.nil _ | refine Has.cons rfl ?_))
              · exact (by repeat (first | exact Has.nil _ | refine Has.cons rfl ?_))
              · exact (SubH.cons 2 rfl (SubH.cons 2 rfl (SubH.cons 0 rfl (SubH.cons 0 rfl (SubH.cons 0 rfl (SubH.cons 0 rfl (SubH.cons 0 rfl (SubH.nil _))))))))
            · skip
              refine wp_skip' ?_
              refine Then_normal ?_
              refine over_cut (kept ⟨rr2, cc2, ⟨by unfold d3; rw [if_neg (by simp_all)], hg2⟩, rfl, rfl⟩ ?_ ?_ ?_)
              · exact (by repeat (first | exact Has.nil _ | refine Has.cons rfl ?_))
              · exact (by repeat (first | exact Has.nil _ | refine Has.cons rfl ?_))
              · exact SubH.refl _
          · rintro Δ LL ⟨rr3, cc3, ⟨f3, hg3⟩, rfl, rfl⟩
            simp only [List.cons_append, List.nil_append]
            refine wp_cutK 1017 (fun Δ LL => ∃ (rr4 : R) (cc4 : Rc), ((rr4, cc4) = d4 a (rr3, cc3) ∧ rr4.Good) ∧ Δ = [] ∧ LL = [own b6 (.cells (cc4.cs none 0).toArray 56 (0, 0)), own b8 (.cells (a.cs).toArray 107 (0, 0)), own pr (.cells [Value.slice q rr4.b.length cr, .int .i64 rr4.pos, .int .i64 rr4.why, .int .i64 rr4.place].toArray 141 (0, 0)), row 5 1 (.slice q rr4.b.length cr) rr4.b.length (cel rr4.b), row 5 1 (.slice none cc4.da.length 0) cc4.da.length (cel cc4.da), own b3 (.cells (Rc.zero.cs none 0).toArray 56 (0, 0)), V]) (Has.cons (k := 3) rfl (Has.cons (k := 5) rfl (Has.cons (k := 6) rfl (Has.cons (k := 7) rfl (Has.cons (k := 8) rfl (Has.nil _)))))) ?_ ?_
            · refine wp_seq' ?_
              refine wp_region' ?_
              refine ops_ro' rfl (ro_fieldAddr fa107_3 rfl) rfl ?_
              refine ops_ro' rfl (ro_load sc4 rfl (Rd.pick 1 rfl (Rd.own rfl))) rfl ?_
              refine ops_nil ?_
              refine Then_normal ?_
              refine wp_cond' rfl (fun hc47 => ?_) (fun hc47 => ?_)
              · skip
                refine wp_region' ?_
                refine ops_ro' rfl (ro_move rfl) rfl ?_
                refine ops_eff' rfl (eff_call Try.call63 rfl rfl (by repeat (first | exact Split.nil _ | apply Split.cons 0 rfl | apply Split.cons 1 rfl | apply Split.cons 2 rfl | apply Split.cons 3 rfl | apply Split.cons 4 rfl | apply Split.cons 5 rfl | apply Split.cons 6 rfl | apply Split.cons 7 rfl | apply Split.cons 8 rfl | apply Split.cons 9 rfl | apply Split.cons 10 rfl | apply Split.cons 11 rfl)) (rU64_spec pr q cr rr3 hg3.len hg3.pos)) rfl ?_
                rintro _ H' ⟨_, ⟨rfl, rfl⟩, hH⟩
                simp only [List.cons_append, List.nil_append, List.eraseIdx_cons_zero, List.eraseIdx_cons_succ, List.set_cons_zero, List.set_cons_succ] at hH
                subst hH
                refine ops_ro' rfl (ro_fieldAddr fa56_4 rfl) rfl ?_
                refine ops_eff0 rfl (eff_store 2 sc52 rfl rfl rfl rfl (Nat.le_of_ble_eq_true rfl) (warm_zero _)) rfl ?_
                rintro _ _ rfl
                refine ops_nil ?_
                refine Then_normal ?_
                refine over_cut (kept ⟨(rr3.get 8).1, { cc3 with off := (rr3.get 8).2 }, ⟨by unfold d4; rw [if_pos (by assumption)], R.good_get hg3 8⟩, rfl, rfl⟩ ?_ ?_ ?_)
                · exact (by repeat (first | exact Has.nil _ | refine Has.cons rfl ?_))
                · exact (by repeat (first | exact Has.nil _ | refine Has.cons rfl ?_))
                · exact (SubH.cons 2 rfl (SubH.cons 2 rfl (SubH.cons 0 rfl (SubH.cons 0 rfl (SubH.cons 0 rfl (SubH.cons 0 rfl (SubH.cons 0 rfl (SubH.nil _))))))))
              · skip
                refine wp_skip' ?_
                refine Then_normal ?_
                refine over_cut (kept ⟨rr3, cc3, ⟨by unfold d4; rw [if_neg (by simp_all)], hg3⟩, rfl, rfl⟩ ?_ ?_ ?_)
                · exact (by repeat (first | exact Has.nil _ | refine Has.cons rfl ?_))
                · exact (by repeat (first | exact Has.nil _ | refine Has.cons rfl ?_))
                · exact SubH.refl _
            · rintro Δ LL ⟨rr4, cc4, ⟨f4, hg4⟩, rfl, rfl⟩
              simp only [List.cons_append, List.nil_append]
              refine wp_cutK 1019 (fun Δ LL => ∃ (rr5 : R) (cc5 : Rc), ((rr5, cc5) = d5 a (rr4, cc4) ∧ rr5.Good) ∧ Δ = [] ∧ LL = [own b6 (.cells (cc5.cs none 0).toArray 56 (0, 0)), own b8 (.cells (a.cs).toArray 107 (0, 0)), own pr (.cells [Value.slice q rr5.b.length cr, .int .i64 rr5.pos, .int .i64 rr5.why, .int .i64 rr5.place].toArray 141 (0, 0)), row 5 1 (.slice q rr5.b.length cr) rr5.b.length (cel rr5.b), row 5 1 (.slice none cc5.da.length 0) cc5.da.length (cel cc5.da), own b3 (.cells (Rc.zero.cs none 0).toArray 56 (0, 0)), V]) (Has.cons (k := 3) rfl (Has.cons (k := 5) rfl (Has.cons (k := 6) rfl (Has.cons (k := 7) rfl (Has.cons (k := 8) rfl (Has.nil _)))))) ?_ ?_
              · refine wp_seq' ?_
                refine wp_region' ?_
                refine ops_ro' rfl (ro_fieldAddr fa107_4 rfl) rfl ?_
                refine ops_ro' rfl (ro_load sc4 rfl (Rd.pick 1 rfl (Rd.own rfl))) rfl ?_
                refine ops_nil ?_
                refine Then_normal ?_
                refine wp_cond' rfl (fun hc52 => ?_) (fun hc52 => ?_)
                · skip
                  refine wp_region' ?_
                  refine ops_ro' rfl (ro_move rfl) rfl ?_
                  refine ops_eff' rfl (eff_call Try.call60 rfl rfl (by repeat (first | exact Split.nil _ | apply Split.cons 0 rfl | apply Split.cons 1 rfl | apply Split.cons 2 rfl | apply Split.cons 3 rfl | apply Split.cons 4 rfl | apply Split.cons 5 rfl | apply Split.cons 6 rfl | apply Split.cons 7 rfl | apply Split.cons 8 rfl | apply Split.cons 9 rfl | apply Split.cons 10 rfl | apply Split.cons 11 rfl)) (rU32_spec pr q cr rr4 hg4.len hg4.pos)) rfl ?_
                  rintro _ H' ⟨_, ⟨rfl, rfl⟩, hH⟩
                  simp only [List.cons_append, List.nil_append, List.eraseIdx_cons_zero, List.eraseIdx_cons_succ, List.set_cons_zero, List.set_cons_succ] at hH
                  subst hH
                  refine ops_ro' rfl (ro_fieldAddr fa56_5 rfl) rfl ?_
                  refine ops_eff0 rfl (eff_store 2 sc40 rfl rfl rfl rfl (Nat.le_of_ble_eq_true rfl) (warm_zero _)) rfl ?_
                  rintro _ _ rfl
                  refine ops_nil ?_
                  refine Then_normal ?_
                  refine over_cut (kept ⟨(rr4.get 4).1, { cc4 with len := (rr4.get 4).2 }, ⟨by unfold d5; rw [if_pos (by assumption)], R.good_get hg4 4⟩, rfl, rfl⟩ ?_ ?_ ?_)
                  · exact (by repeat (first | exact Has.nil _ | refine Has.cons rfl ?_))
                  · exact (by repeat (first | exact Has.nil _ | refine Has.cons rfl ?_))
                  · exact (SubH.cons 2 rfl (SubH.cons 2 rfl (SubH.cons 0 rfl (SubH.cons 0 rfl (SubH.cons 0 rfl (SubH.cons 0 rfl (SubH.cons 0 rfl (SubH.nil _))))))))
                · skip
                  refine wp_skip' ?_
                  refine Then_normal ?_
                  refine over_cut (kept ⟨rr4, cc4, ⟨by unfold d5; rw [if_neg (by simp_all)], hg4⟩, rfl, rfl⟩ ?_ ?_ ?_)
                  · exact (by repeat (first | exact Has.nil _ | refine Has.cons rfl ?_))
                  · exact (by repeat (first | exact Has.nil _ | refine Has.cons rfl ?_))
                  · exact SubH.refl _
              · rintro Δ LL ⟨rr5, cc5, ⟨f5, hg5⟩, rfl, rfl⟩
                simp only [List.cons_append, List.nil_append]
                refine wp_cutK 1021 (fun Δ LL => ∃ (rr6 : R) (cc6 : Rc) (dp6 : Option Addr) (dn6 : Nat), ((rr6, cc6) = d6 a (rr5, cc5) ∧ rr6.Good) ∧ Δ = [] ∧ LL = [own b6 (.cells (cc6.cs dp6 dn6).toArray 56 (0, 0)), own b8 (.cells (a.cs).toArray 107 (0, 0)), own pr (.cells [Value.slice q rr6.b.length cr, .int .i64 rr6.pos, .int .i64 rr6.why, .int .i64 rr6.place].toArray 141 (0, 0)), row 5 1 (.slice q rr6.b.length cr) rr6.b.length (cel rr6.b), row 5 1 (.slice dp6 cc6.da.length dn6) cc6.da.length (cel cc6.da), own b3 (.cells (Rc.zero.cs none 0).toArray 56 (0, 0)), V]) (Has.cons (k := 3) rfl (Has.cons (k := 5) rfl (Has.cons (k := 6) rfl (Has.cons (k := 7) rfl (Has.cons (k := 8) rfl (Has.nil _)))))) ?_ ?_
                · refine wp_seq' ?_
                  refine wp_region' ?_
                  refine ops_ro' rfl (ro_fieldAddr fa107_5 rfl) rfl ?_
                  refine ops_ro' rfl (ro_load sc4 rfl (Rd.pick 1 rfl (Rd.own rfl))) rfl ?_
                  refine ops_nil ?_
                  refine Then_normal ?_
                  refine wp_cond' rfl (fun hc57 => ?_) (fun hc57 => ?_)
                  · skip
                    refine wp_region' ?_
                    refine ops_ro' rfl (ro_move rfl) rfl ?_
                    refine ops_eff' rfl (eff_call Try.call62 rfl rfl (by repeat (first | exact Split.nil _ | apply Split.cons 0 rfl | apply Split.cons 1 rfl | apply Split.cons 2 rfl | apply Split.cons 3 rfl | apply Split.cons 4 rfl | apply Split.cons 5 rfl | apply Split.cons 6 rfl | apply Split.cons 7 rfl | apply Split.cons 8 rfl | apply Split.cons 9 rfl | apply Split.cons 10 rfl | apply Split.cons 11 rfl)) (rText_spec pr q cr rr5 hg5 32768 (by decide))) rfl ?_
                    rintro _ H' ⟨_, ⟨rfl, rfl⟩, hH⟩
                    simp only [List.cons_append, List.nil_append, List.eraseIdx_cons_zero, List.eraseIdx_cons_succ, List.set_cons_zero, List.set_cons_succ] at hH
                    subst hH
                    refine ops_eff' rfl (eff_toBytesS Try.underlying9 Try.underlying32 Try.underlying5 rfl (by have h9 := R.text_len rr5 32768; simp only [maxLen]; omega)) rfl ?_
                    rintro _ _ ⟨b60, c60, rfl, rfl⟩
                    refine ops_ro' rfl (ro_fieldAddr fa56_6 rfl) rfl ?_
                    refine ops_eff0 rfl (eff_store 3 sc32 rfl rfl rfl rfl (Nat.le_of_ble_eq_true rfl) (warm_zero _)) rfl ?_
                    rintro _ _ rfl
                    refine ops_nil ?_
                    refine Then_normal ?_
                    refine over_cut (kept ⟨(rr5.text 32768).1, { cc5 with da := (rr5.text 32768).2 }, some ⟨b60, 0, none⟩, c60, ⟨by unfold d6; rw [if_pos (by assumption)], R.good_text hg5 32768⟩, rfl, rfl⟩ ?_ ?_ ?_)
                    · exact (by repeat (first | exact Has.nil _ | refine Has.cons rfl ?_))
                    · exact (by repeat (first | exact Has.nil _ | refine Has.cons rfl ?_))
                    · exact (SubH.cons 3 rfl (SubH.cons 3 rfl (SubH.cons 1 rfl (SubH.cons 1 rfl (SubH.cons 0 rfl (SubH.cons 1 rfl (SubH.cons 1 rfl (SubH.nil _))))))))
                  · skip
                    refine wp_skip' ?_
                    refine Then_normal ?_
                    refine over_cut (kept ⟨rr5, cc5, none, 0, ⟨by unfold d6; rw [if_neg (by simp_all)], hg5⟩, rfl, rfl⟩ ?_ ?_ ?_)
                    · exact (by repeat (first | exact Has.nil _ | refine Has.cons rfl ?_))
                    · exact (by repeat (first | exact Has.nil _ | refine Has.cons rfl ?_))
                    · exact SubH.refl _
                · rintro Δ LL ⟨rr6, cc6, dp6, dn6, ⟨f6, hg6⟩, rfl, rfl⟩
                  simp only [List.cons_append, List.nil_append]
                  refine wp_cutK 1023 (fun Δ LL => ∃ (rr7 : R) (cc7 : Rc) (dp7 : Option Addr) (dn7 : Nat), ((rr7, cc7) = d7 a (rr6, cc6) ∧ rr7.Good) ∧ Δ = [] ∧ LL = [own b6 (.cells (cc7.cs dp7 dn7).toArray 56 (0, 0)), own b8 (.cells (a.cs).toArray 107 (0, 0)), own pr (.cells [Value.slice q rr7.b.length cr, .int .i64 rr7.pos, .int .i64 rr7.why, .int .i64 rr7.place].toArray 141 (0, 0)), row 5 1 (.slice q rr7.b.length cr) rr7.b.length (cel rr7.b), row 5 1 (.slice dp7 cc7.da.length dn7) cc7.da.length (cel cc7.da), own b3 (.cells (Rc.zero.cs none 0).toArray 56 (0, 0)), V]) (Has.cons (k := 3) rfl (Has.cons (k := 5) rfl (Has.cons (k := 6) rfl (Has.cons (k := 7) rfl (Has.cons (k := 8) rfl (Has.nil _)))))) ?_ ?_
                  · refine wp_seq' ?_
                    refine wp_region' ?_
                    refine ops_ro' rfl (ro_fieldAddr fa107_6 rfl) rfl ?_
                    refine ops_ro' rfl (ro_load sc4 rfl (Rd.pick 1 rfl (Rd.own rfl))) rfl ?_
                    refine ops_nil ?_
                    refine Then_normal ?_
                    refine wp_cond' rfl (fun hc63 => ?_) (fun hc63 => ?_)
                    · skip
                      refine wp_region' ?_
                      refine ops_ro' rfl (ro_move rfl) rfl ?_
                      refine ops_eff' rfl (eff_call Try.call60 rfl rfl (by repeat (first | exact Split.nil _ | apply Split.cons 0 rfl | apply Split.cons 1 rfl | apply Split.cons 2 rfl | apply Split.cons 3 rfl | apply Split.cons 4 rfl | apply Split.cons 5 rfl | apply Split.cons 6 rfl | apply Split.cons 7 rfl | apply Split.cons 8 rfl | apply Split.cons 9 rfl | apply Split.cons 10 rfl | apply Split.cons 11 rfl)) (rU32_spec pr q cr rr6 hg6.len hg6.pos)) rfl ?_
                      rintro _ H' ⟨_, ⟨rfl, rfl⟩, hH⟩
                      simp only [List.cons_append, List.nil_append, List.eraseIdx_cons_zero, List.eraseIdx_cons_succ, List.set_cons_zero, List.set_cons_succ] at hH
                      subst hH
                      refine ops_ro' rfl (ro_fieldAddr fa56_7 rfl) rfl ?_
                      refine ops_eff0 rfl (eff_store 2 sc40 rfl rfl rfl rfl (Nat.le_of_ble_eq_true rfl) (warm_zero _)) rfl ?_
                      rintro _ _ rfl
                      refine ops_nil ?_
                      refine Then_normal ?_
                      refine over_cut (kept ⟨(rr6.get 4).1, { cc6 with fl := (rr6.get 4).2 }, dp6, dn6, ⟨by unfold d7; rw [if_pos (by assumption)], R.good_get hg6 4⟩, rfl, rfl⟩ ?_ ?_ ?_)
                      · exact (by repeat (first | exact Has.nil _ | refine Has.cons rfl ?_))
                      · exact (by repeat (first | exact Has.nil _ | refine Has.cons rfl ?_))
                      · exact (SubH.cons 2 rfl (SubH.cons 2 rfl (SubH.cons 0 rfl (SubH.cons 0 rfl (SubH.cons 0 rfl (SubH.cons 0 rfl (SubH.cons 0 rfl (SubH.nil _))))))))
                    · skip
                      refine wp_skip' ?_
                      refine Then_normal ?_
                      refine over_cut (kept ⟨rr6, cc6, dp6, dn6, ⟨by unfold d7; rw [if_neg (by simp_all)], hg6⟩, rfl, rfl⟩ ?_ ?_ ?_)
                      · exact (by repeat (first | exact Has.nil _ | refine Has.cons rfl ?_))
                      · exact (by repeat (first | exact Has.nil _ | refine Has.cons rfl ?_))
                      · exact SubH.refl _
                  · rintro Δ LL ⟨rr7, cc7, dp7, dn7, ⟨f7, hg7⟩, rfl, rfl⟩
                    simp only [List.cons_append, List.nil_append]
                    refine wp_cutK 1025 (fun Δ LL => ∃ (rr8 : R) (cc8 : Rc) (dp8 : Option Addr) (dn8 : Nat), ((rr8, cc8) = d8 a (rr7, cc7) ∧ rr8.Good) ∧ Δ = [] ∧ LL = [own b6 (.cells (cc8.cs dp8 dn8).toArray 56 (0, 0)), own b8 (.cells (a.cs).toArray 107 (0, 0)), own pr (.cells [Value.slice q rr8.b.length cr, .int .i64 rr8.pos, .int .i64 rr8.why, .int .i64 rr8.place].toArray 141 (0, 0)), row 5 1 (.slice q rr8.b.length cr) rr8.b.length (cel rr8.b), row 5 1 (.slice dp8 cc8.da.length dn8) cc8.da.length (cel cc8.da), own b3 (.cells (Rc.zero.cs none 0).toArray 56 (0, 0)), V]) (Has.cons (k := 3) rfl (Has.cons (k := 5) rfl (Has.cons (k := 6) rfl (Has.cons (k := 7) rfl (Has.nil _))))) ?_ ?_
                    · refine wp_seq' ?_
                      refine wp_region' ?_
                      refine ops_ro' rfl (ro_fieldAddr fa107_7 rfl) rfl ?_
                      refine ops_ro' rfl (ro_load sc4 rfl (Rd.pick 1 rfl (Rd.own rfl))) rfl ?_
                      refine ops_nil ?_
                      refine Then_normal ?_
                      refine wp_cond' rfl (fun hc68 => ?_) (fun hc68 => ?_)
                      · skip
                        refine wp_region' ?_
                        refine ops_ro' rfl (ro_move rfl) rfl ?_
                        refine ops_eff' rfl (eff_call Try.call64 rfl rfl (by repeat (first | exact Split.nil _ | apply Split.cons 0 rfl | apply Split.cons 1 rfl | apply Split.cons 2 rfl | apply Split.cons 3 rfl | apply Split.cons 4 rfl | apply Split.cons 5 rfl | apply Split.cons 6 rfl | apply Split.cons 7 rfl | apply Split.cons 8 rfl | apply Split.cons 9 rfl | apply Split.cons 10 rfl | apply Split.cons 11 rfl)) (aget_spec pr q cr rr7 hg7.len hg7.pos)) rfl ?_
                        rintro _ H' ⟨_, ⟨rfl, rfl⟩, hH⟩
                        simp only [List.cons_append, List.nil_append, List.eraseIdx_cons_zero, List.eraseIdx_cons_succ, List.set_cons_zero, List.set_cons_succ] at hH
                        subst hH
                        refine ops_ro' rfl (ro_fieldAddr fa56_8 rfl) rfl ?_
                        refine ops_eff0 rfl (eff_storeA 2 ag54 rfl rfl rfl rfl rfl (Nat.le_of_ble_eq_true rfl) (warm_zero _)) rfl ?_
                        rintro _ _ rfl
                        refine ops_nil ?_
                        refine Then_normal ?_
                        refine over_cut (kept ⟨(rr7.attrs).1, { cc7 with at' := (rr7.attrs).2 }, dp7, dn7, ⟨by unfold d8; rw [if_pos (by assumption)], good_attrs hg7⟩, rfl, rfl⟩ ?_ ?_ ?_)
                        · exact (by repeat (first | exact Has.nil _ | refine Has.cons rfl ?_))
                        · exact (by repeat (first | exact Has.nil _ | refine Has.cons rfl ?_))
                        · exact (SubH.cons 2 rfl (SubH.cons 2 rfl (SubH.cons 0 rfl (SubH.cons 0 rfl (SubH.cons 0 rfl (SubH.cons 0 rfl (SubH.cons 0 rfl (SubH.nil _))))))))
                      · skip
                        refine wp_skip' ?_
                        refine Then_normal ?_
                        refine over_cut (kept ⟨rr7, cc7, dp7, dn7, ⟨by unfold d8; rw [if_neg (by simp_all)], hg7⟩, rfl, rfl⟩ ?_ ?_ ?_)
                        · exact (by repeat (first | exact Has.nil _ | refine Has.cons rfl ?_))
                        · exact (by repeat (first | exact Has.nil _ | refine Has.cons rfl ?_))
                        · exact SubH.refl _
                    · rintro Δ LL ⟨rr8, cc8, dp8, dn8, ⟨f8, hg8⟩, rfl, rfl⟩
                      simp only [List.cons_append, List.nil_append]
                      refine wp_seq' ?_
                      refine wp_seq' ?_
                      refine wp_region' ?_
                      refine ops_ro' rfl (ro_move rfl) rfl ?_
                      refine ops_eff' rfl (eff_call Try.call65 rfl rfl (by repeat (first | exact Split.nil _ | apply Split.cons 0 rfl | apply Split.cons 1 rfl | apply Split.cons 2 rfl | apply Split.cons 3 rfl | apply Split.cons 4 rfl | apply Split.cons 5 rfl | apply Split.cons 6 rfl | apply Split.cons 7 rfl | apply Split.cons 8 rfl | apply Split.cons 9 rfl | apply Split.cons 10 rfl | apply Split.cons 11 rfl)) (rAll_spec pr q cr rr8 hg8)) rfl ?_
                      rintro _ H' ⟨_, ⟨rfl, rfl⟩, hH⟩
                      simp only [List.cons_append, List.nil_append, List.eraseIdx_cons_zero, List.eraseIdx_cons_succ, List.set_cons_zero, List.set_cons_succ] at hH
                      subst hH
                      refine ops_ro' rfl (ro_not rfl rfl) rfl ?_
                      refine ops_nil ?_
                      refine Then_normal ?_
                      refine wp_cond' rfl (fun hc74 => ?_) (fun hc74 => ?_)
                      · simp only [Bool.and_eq_true, decide_eq_true_eq, Bool.not_eq_true', decide_eq_false_iff_not, bne_iff_ne, ne_eq] at hc74
                        refine wp_seq' ?_
                        refine wp_region' ?_
                        refine ops_ro' rfl (ro_move rfl) rfl ?_
                        refine ops_ro' rfl (ro_build rfl (bld_struct (cs := Rc.zero.cs none 0) st56 rfl)) rfl ?_
                        refine ops_ro' rfl (ro_assign rfl) rfl ?_
                        refine ops_eff0 rfl (eff_storeA 5 ag56 rfl rfl rfl rfl rfl (Nat.le_of_ble_eq_true rfl) (warm_zero _)) rfl ?_
                        rintro _ _ rfl
                        refine ops_ro' rfl (ro_assign rfl) rfl ?_
                        refine ops_nil ?_
                        refine Then_normal ?_
                        refine wp_ret' ?_
                        refine Then_ret ?_
                        refine' doneS_ret (resv3 rfl (rv_tmp rfl) (rv_cellA ag56 rfl (by first | exact RdN.of_pick 0 rfl rdn_all | exact RdN.of_pick 1 rfl rdn_all | exact RdN.of_pick 2 rfl rdn_all | exact RdN.of_pick 3 rfl rdn_all | exact RdN.of_pick 4 rfl rdn_all | exact RdN.of_pick 5 rfl rdn_all | exact RdN.of_pick 6 rfl rdn_all | exact RdN.of_pick 7 rfl rdn_all | exact RdN.of_pick 8 rfl rdn_all) rfl) (rv_tmp rfl)) ?_ ?_
                        rotate_left 1
                        have HX : decQ b = (id, Rc.zero, 12) := by
                          unfold decQ
                          rw [if_neg (by omega), e1]
                          simp only
                          rw [e2, ← ha]
                          simp only
                          rw [if_neg (by simp_all), d1_all f1 f2 f3 f4 f5 f6 f7 f8]
                          simp only
                          rw [if_neg (by simp_all)]
                        rw [HX]
                        exact ⟨none, 0, rfl, rfl⟩
                        exact (SubH.rown (SubH.cons 6 rfl (SubH.nil _)))
                      · simp only [Bool.and_eq_false_iff, decide_eq_false_iff_not, Bool.not_eq_false', decide_eq_true_eq] at hc74
                        refine wp_skip' ?_
                        refine Then_normal ?_
                        refine wp_seq' ?_
                        refine wp_draw 3 (by kernel_rfl) (Split.all _) ?_
                        refine any_ro' (i := 0) (by kernel_rfl) rfl rfl (ro_move rfl) rfl (fun _ _ _ h => h) ?_
                        refine any_ro' (i := 1) (by kernel_rfl) rfl rfl (ro_loadA ag56 rfl (RdN.of_pick 2 rfl rdn_all) rfl) rfl (fun _ _ _ h => h) ?_
                        refine any_ro' (i := 2) (by kernel_rfl) rfl rfl (ro_assign rfl) rfl (fun _ _ _ h => h) ?_
                        refine any_unlock (m' := 5) (L' := []) (by kernel_rfl) unlock ?_
                        simp only [List.cons_append, List.nil_append, List.append_nil]
                        refine any_eff0 (i := 3) (by kernel_rfl) rfl rfl (eff_storeA 5 ag56 rfl rfl rfl rfl rfl (Nat.le_of_ble_eq_true rfl) (warm_zero _)) rfl ?_
                        rintro _ _ rfl
                        refine any_ro' (i := 4) (by kernel_rfl) rfl rfl (ro_assign rfl) rfl (fun _ _ _ h => h) ?_
                        refine any_doneH (by kernel_rfl) ?_
                        refine Then_normal ?_
                        refine wp_ret' ?_
                        refine' doneS_ret (resv3 rfl (rv_tmp rfl) (rv_cellA ag56 rfl (by first | exact RdN.of_pick 0 rfl rdn_all | exact RdN.of_pick 1 rfl rdn_all | exact RdN.of_pick 2 rfl rdn_all | exact RdN.of_pick 3 rfl rdn_all | exact RdN.of_pick 4 rfl rdn_all | exact RdN.of_pick 5 rfl rdn_all | exact RdN.of_pick 6 rfl rdn_all | exact RdN.of_pick 7 rfl rdn_all | exact RdN.of_pick 8 rfl rdn_all) rfl) (rv_tmp rfl)) ?_ ?_
                        rotate_left 1
                        have HX : decQ b = (id, cc8, 0) := by
                          unfold decQ
                          rw [if_neg (by omega), e1]
                          simp only
                          rw [e2, ← ha]
                          simp only
                          rw [if_neg (by simp_all), d1_all f1 f2 f3 f4 f5 f6 f7 f8]
                          simp only
                          rw [if_pos (by simp_all)]
                        rw [HX]
                        exact ⟨dp8, dn8, rfl, rfl⟩
                        exact (SubH.cons 4 rfl (SubH.cons 5 rfl (SubH.nil _)))

end Go.Proofs.Ytigaolglnnjnmaa
