/-
  Package sftp: replies read.
-/
import Derived.Test.YtigaolglnnjnmaaSfF
import Derived.Test.YtigaolglnnjnmaaSfB
namespace Go.Proofs.Ytigaolglnnjnmaa
open Go.Sx
set_option linter.unusedVariables false
set_option linter.unusedSimpArgs false
set_option maxRecDepth 100000
set_option maxHeartbeats 4000000

def lstN : Nat → R → R × List Nm
  | 0, r => (r, [])
  | n + 1, r => if r.why ≠ 0 then (r, []) else ((lstN n ((r.text 256).1.text 256).1.attrs.1).1, ⟨(r.text 256).2, ((r.text 256).1.text 256).1.attrs.2⟩ :: (lstN n ((r.text 256).1.text 256).1.attrs.1).2)
def gateN (r : R) (n most : Nat) : R := if most < n then r.fail 12 else r
/-- names are read -/
def readL (r : R) : R × List Nm := lstN (r.get 4).2 (gateN (r.get 4).1 (r.get 4).2 100)
theorem lstN_stop {n : Nat} {r : R} (h : n = 0 ∨ r.why ≠ 0) : lstN n r = (r, []) := by
  cases n with
  | zero => rfl
  | succ n => unfold lstN; rw [if_pos (by rcases h with h | h; cases h; exact h)]
theorem gateN_good {r : R} (h : r.Good) (n most : Nat) : (gateN r n most).Good := by unfold gateN; split; exact R.good_fail h _; exact h
/-- so many are left, these were read -/
def Lft (n0 : Nat) (r0 : R) (n : Nat) (r : R) (acc : List Nm) : Prop := lstN n0 r0 = ((lstN n r).1, acc ++ (lstN n r).2)
theorem Lft.step {n0 n : Nat} {r0 r : R} {acc : List Nm} (h : Lft n0 r0 n r acc) (hn : 0 < n) (hw : r.why = 0) : Lft n0 r0 (n - 1) ((r.text 256).1.text 256).1.attrs.1 (acc ++ [⟨(r.text 256).2, ((r.text 256).1.text 256).1.attrs.2⟩]) := by
  obtain ⟨m, rfl⟩ : ∃ m, n = m + 1 := ⟨n - 1, by omega⟩
  unfold Lft at *
  rw [h]
  simp only [Nat.add_sub_cancel]
  rw [lstN, if_neg (by simpa using hw)]
  simp


theorem sfList_spec (pr : Nat) (q : Option Addr) (cr : Nat) (rr : R) (hgr : rr.Good) : Tri Try.prog 78 [.pointer (some ⟨pr, 0, none⟩)] (rd pr q cr rr) (fun v H' => ∃ p c, v = .slice p (readL rr).2.length c ∧ H' = rd pr q cr (readL rr).1 ++ [row 120 8 (.slice p (readL rr).2.length c) (readL rr).2.length (flat Nm.cs (readL rr).2)]) := by
  refine tri_of_wpS Try.func78 rfl Try.ntmps78 (by simp) ?_
  refine wp_seq' ?_
  refine wp_region' ?_
  refine ops_ro' rfl (ro_assign rfl) rfl ?_
  refine ops_nil ?_
  refine Then_normal ?_
  refine wp_seq' ?_
  refine wp_region' ?_
  refine ops_ro' rfl (ro_move rfl) rfl ?_
  refine ops_eff' rfl (eff_call Try.call60 rfl rfl (by repeat (first | exact Split.nil _ | apply Split.cons 0 rfl | apply Split.cons 1 rfl | apply Split.cons 2 rfl | apply Split.cons 3 rfl | apply Split.cons 4 rfl | apply Split.cons 5 rfl | apply Split.cons 6 rfl | apply Split.cons 7 rfl | apply Split.cons 8 rfl | apply Split.cons 9 rfl | apply Split.cons 10 rfl | apply Split.cons 11 rfl)) (rU32_spec pr q cr rr hgr.len hgr.pos)) rfl ?_
  rintro _ H' ⟨_, ⟨rfl, rfl⟩, hH⟩
  simp only [List.cons_append, List.nil_append, List.eraseIdx_cons_zero, List.eraseIdx_cons_succ, List.set_cons_zero, List.set_cons_succ] at hH
  subst hH
  have hlt := get_lt rr 4
  simp only [Nat.reducePow] at hlt
  have hg4 := R.good_get hgr 4
  have hL : readL rr = lstN (rr.get 4).2 (gateN (rr.get 4).1 (rr.get 4).2 100) := rfl
  generalize rr.get 4 = t at *
  obtain ⟨r1, n0⟩ := t
  simp only at *
  refine ops_ro' rfl (ro_assign rfl) rfl ?_
  refine ops_nil ?_
  refine Then_normal ?_
  refine wp_cutK 1004 (fun Δ LL => ∃ (r0 : R), (r0 = gateN r1 n0 100 ∧ r0.Good) ∧ Δ = [] ∧ LL = [own pr (.cells [Value.slice q r0.b.length cr, .int .i64 r0.pos, .int .i64 r0.why, .int .i64 r0.place].toArray 141 (0, 0)), row 5 1 (.slice q r0.b.length cr) r0.b.length (cel r0.b)]) (Has.cons (k := 0) rfl (Has.cons (k := 3) rfl (Has.nil _))) ?_ ?_
  · refine wp_seq' ?_
    refine wp_region' ?_
    refine ops_ro' rfl (ro_move rfl) rfl ?_
    refine ops_ro' rfl (ro_gtr rfl rfl rfl) rfl ?_
    refine ops_nil ?_
    refine Then_normal ?_
    refine wp_cond' rfl (fun hc9 => ?_) (fun hc9 => ?_)
    · replace hc9 := of_decide_eq_true hc9
      refine wp_region' ?_
      refine ops_ro' rfl (ro_move rfl) rfl ?_
      refine ops_eff' rfl (eff_call Try.call77 rfl rfl (by repeat (first | exact Split.nil _ | apply Split.cons 0 rfl | apply Split.cons 1 rfl | apply Split.cons 2 rfl | apply Split.cons 3 rfl | apply Split.cons 4 rfl | apply Split.cons 5 rfl | apply Split.cons 6 rfl | apply Split.cons 7 rfl | apply Split.cons 8 rfl | apply Split.cons 9 rfl | apply Split.cons 10 rfl | apply Split.cons 11 rfl)) (fail_spec pr q cr r1 12)) rfl ?_
      rintro _ H' ⟨_, ⟨rfl, rfl⟩, hH⟩
      simp only [List.cons_append, List.nil_append, List.eraseIdx_cons_zero, List.eraseIdx_cons_succ, List.set_cons_zero, List.set_cons_succ] at hH
      subst hH
      refine ops_nil ?_
      refine Then_normal ?_
      refine over_cut (kept ⟨r1.fail 12, ⟨by unfold gateN; rw [if_pos (by omega)], R.good_fail hg4 12⟩, rfl, rfl⟩ ?_ ?_ ?_)
      · exact (by repeat (first | exact Has.nil _ | refine Has.cons rfl ?_))
      · exact (by repeat (first | exact Has.nil _ | refine Has.cons rfl ?_))
      · exact SubH.refl _
    · replace hc9 := of_decide_eq_false hc9
      refine wp_skip' ?_
      refine Then_normal ?_
      refine over_cut (kept ⟨r1, ⟨by unfold gateN; rw [if_neg (by omega)], hg4⟩, rfl, rfl⟩ ?_ ?_ ?_)
      · exact (by repeat (first | exact Has.nil _ | refine Has.cons rfl ?_))
      · exact (by repeat (first | exact Has.nil _ | refine Has.cons rfl ?_))
      · exact SubH.refl _
  · rintro Δ LL ⟨r0, ⟨er0, hg0⟩, rfl, rfl⟩
    simp only [List.cons_append, List.nil_append]
    refine wp_seq' ?_
    have hn0 : n0 < 4294967296 := by omega
    rw [← er0] at hL
    refine wp_region' ?_
    refine ops_ro' rfl (ro_assign rfl) rfl ?_
    refine ops_nil ?_
    refine Then_normal ?_
    refine wp_seq' ?_
    refine wp_block' ?_
    refine wp_loopK 5 (fun m Δ LL => ∃ (n : Nat) (r : R) (p : Option Addr) (c : Nat) (acc : List Nm), (n = m ∧ n < 4294967296 ∧ acc.length + n ≤ 4294967296 ∧ Lft n0 r0 n r acc ∧ r.Good) ∧ Δ = [(3, .int .u32 (n : Nat)), (4, .slice p acc.length c)] ∧ LL = [own pr (.cells [Value.slice q r.b.length cr, .int .i64 r.pos, .int .i64 r.why, .int .i64 r.place].toArray 141 (0, 0)), row 5 1 (.slice q r.b.length cr) r.b.length (cel r.b), row 120 8 (.slice p acc.length c) acc.length (flat Nm.cs acc)]) (m := n0) (Has.cons (k := 0) rfl (Has.nil _)) (kept ⟨n0, r0, none, 0, [], ⟨rfl, hn0, by simp; omega, by unfold Lft; simp, hg0⟩, rfl, rfl⟩ (by repeat (first | exact Has.nil _ | refine Has.cons rfl ?_)) (by repeat (first | exact Has.nil _ | refine Has.cons rfl ?_)) (by repeat (first | exact SubH.nil _ | refine SubH.cons 0 rfl ?_ | refine SubH.cons 1 rfl ?_ | refine SubH.cons 2 rfl ?_ | refine SubH.cons 3 rfl ?_ | refine SubH.cons 4 rfl ?_ | refine SubH.cons 5 rfl ?_ | refine SubH.cons 6 rfl ?_ | refine SubH.cons 7 rfl ?_ | refine SubH.cons 8 rfl ?_ | refine SubH.cons 9 rfl ?_ | refine SubH.cons 10 rfl ?_ | refine SubH.cons 11 rfl ?_ | refine SubH.cons 12 rfl ?_ | refine SubH.cons 13 rfl ?_ | refine SubH.rown ?_))) ?_
    rintro m Δ LL ⟨n, r, p, c, acc, ⟨hnm, hn, hacc, hlf, hg⟩, rfl, rfl⟩
    simp only [List.cons_append, List.nil_append]
    refine wp_seq' ?_
    refine wp_seq' ?_
    refine wp_region' ?_
    refine ops_ro' rfl (ro_move rfl) rfl ?_
    refine ops_ro' rfl (ro_gtr rfl rfl rfl) rfl ?_
    refine ops_split rfl rfl rfl (fun hg14 => ?_) (fun hg14 => ?_)
    · replace hg14 := of_decide_eq_true hg14
      refine ops_ro' rfl (ro_move rfl) rfl ?_
      refine ops_eff' rfl (eff_call Try.call90 rfl rfl (by repeat (first | exact Split.nil _ | apply Split.cons 0 rfl | apply Split.cons 1 rfl | apply Split.cons 2 rfl | apply Split.cons 3 rfl | apply Split.cons 4 rfl | apply Split.cons 5 rfl | apply Split.cons 6 rfl | apply Split.cons 7 rfl | apply Split.cons 8 rfl | apply Split.cons 9 rfl | apply Split.cons 10 rfl | apply Split.cons 11 rfl)) (rFine_spec pr q cr r)) rfl ?_
      rintro _ H' ⟨_, ⟨rfl, rfl⟩, hH⟩
      simp only [List.cons_append, List.nil_append, List.eraseIdx_cons_zero, List.eraseIdx_cons_succ, List.set_cons_zero, List.set_cons_succ] at hH
      subst hH
      refine ops_ro' rfl (ro_pick rfl rfl) rfl ?_
      refine ops_nil ?_
      refine Then_normal ?_
      refine wp_cond' rfl (fun hc17 => ?_) (fun hc17 => ?_)
      · replace hc17 := of_decide_eq_true hc17
        refine wp_skip' ?_
        refine Then_normal ?_
        refine wp_seq' ?_
        refine wp_block' ?_
        refine wp_seq' ?_
        refine wp_region' ?_
        refine ops_ro' rfl (ro_move rfl) rfl ?_
        refine ops_eff' rfl (eff_call Try.call62 rfl rfl (by repeat (first | exact Split.nil _ | apply Split.cons 0 rfl | apply Split.cons 1 rfl | apply Split.cons 2 rfl | apply Split.cons 3 rfl | apply Split.cons 4 rfl | apply Split.cons 5 rfl | apply Split.cons 6 rfl | apply Split.cons 7 rfl | apply Split.cons 8 rfl | apply Split.cons 9 rfl | apply Split.cons 10 rfl | apply Split.cons 11 rfl)) (rText_spec pr q cr r hg 256 (by decide))) rfl ?_
        rintro _ H' ⟨_, ⟨rfl, rfl⟩, hH⟩
        simp only [List.cons_append, List.nil_append, List.eraseIdx_cons_zero, List.eraseIdx_cons_succ, List.set_cons_zero, List.set_cons_succ] at hH
        subst hH
        refine ops_ro' rfl (ro_build rfl (bld_struct (cs := Nm.cs ⟨(r.text 256).2, At.zero⟩) st120 rfl)) rfl ?_
        refine ops_eff' rfl (eff_alloc z120) rfl ?_
        rintro _ _ ⟨b5, rfl, rfl⟩
        refine ops_eff0 rfl (eff_storeA 0 ag120 rfl rfl rfl rfl rfl (Nat.le_of_ble_eq_true rfl) (warm_zero _)) rfl ?_
        rintro _ _ rfl
        refine ops_nil ?_
        refine Then_normal ?_
        refine wp_seq' ?_
        refine wp_region' ?_
        refine ops_ro' rfl (ro_move rfl) rfl ?_
        refine ops_eff' rfl (eff_call Try.call62 rfl rfl (by repeat (first | exact Split.nil _ | apply Split.cons 0 rfl | apply Split.cons 1 rfl | apply Split.cons 2 rfl | apply Split.cons 3 rfl | apply Split.cons 4 rfl | apply Split.cons 5 rfl | apply Split.cons 6 rfl | apply Split.cons 7 rfl | apply Split.cons 8 rfl | apply Split.cons 9 rfl | apply Split.cons 10 rfl | apply Split.cons 11 rfl)) (rText_spec pr q cr (r.text 256).1 (R.good_text hg 256) 256 (by decide))) rfl ?_
        rintro _ H' ⟨_, ⟨rfl, rfl⟩, hH⟩
        simp only [List.cons_append, List.nil_append, List.eraseIdx_cons_zero, List.eraseIdx_cons_succ, List.set_cons_zero, List.set_cons_succ] at hH
        subst hH
        refine ops_nil ?_
        refine Then_normal ?_
        refine wp_seq' ?_
        refine wp_region' ?_
        refine ops_ro' rfl (ro_move rfl) rfl ?_
        refine ops_eff' rfl (eff_call Try.call64 rfl rfl (by repeat (first | exact Split.nil _ | apply Split.cons 0 rfl | apply Split.cons 1 rfl | apply Split.cons 2 rfl | apply Split.cons 3 rfl | apply Split.cons 4 rfl | apply Split.cons 5 rfl | apply Split.cons 6 rfl | apply Split.cons 7 rfl | apply Split.cons 8 rfl | apply Split.cons 9 rfl | apply Split.cons 10 rfl | apply Split.cons 11 rfl)) (aget_spec pr q cr ((r.text 256).1.text 256).1 (R.good_text (R.good_text hg 256) 256).len (R.good_text (R.good_text hg 256) 256).pos)) rfl ?_
        rintro _ H' ⟨_, ⟨rfl, rfl⟩, hH⟩
        simp only [List.cons_append, List.nil_append, List.eraseIdx_cons_zero, List.eraseIdx_cons_succ, List.set_cons_zero, List.set_cons_succ] at hH
        subst hH
        refine ops_ro' rfl (ro_fieldAddr fa120_1 rfl) rfl ?_
        refine ops_eff0 rfl (eff_storeA 2 ag54 rfl rfl rfl rfl rfl (Nat.le_of_ble_eq_true rfl) (warm_zero _)) rfl ?_
        rintro _ _ rfl
        refine ops_nil ?_
        refine Then_normal ?_
        refine wp_region' ?_
        refine ops_ro' rfl (ro_move rfl) rfl ?_
        refine ops_ro' rfl (ro_loadA ag120 rfl (RdN.of_pick 2 rfl rdn_all) rfl) rfl ?_
        refine ops_eff' rfl (eff_lit sl64 rfl (sbld (cs := flat Nm.cs [⟨(r.text 256).2, ((r.text 256).1.text 256).1.attrs.2⟩]) [(.string ByteArray.empty), (.int .u32 0), (.int .u64 0), (.int .u32 0), (.int .u32 0), (.int .u32 0), (.int .u32 0), (.int .u32 0)] sl64 (by decide) (by kernel_rfl) rfl) rfl (by decide)) rfl ?_
        rintro _ _ ⟨b30, rfl, rfl⟩
        refine ops_eff' rfl (eff_appF (f := Nm.cs) (l2 := [⟨(r.text 256).2, ((r.text 256).1.text 256).1.attrs.2⟩]) 4 sl64 (.inl ⟨120, Try.underlying64⟩) rfl rfl rfl (by first | exact Src.flatv Nm.len Nm.one (Vw.pick 0 rfl Vw.row) | exact Src.flatv Nm.len Nm.one (Vw.pick 1 rfl Vw.row) | exact Src.flatv Nm.len Nm.one (Vw.pick 2 rfl Vw.row) | exact Src.flatv Nm.len Nm.one (Vw.pick 3 rfl Vw.row) | exact Src.flatv Nm.len Nm.one (Vw.pick 4 rfl Vw.row) | exact Src.flatv Nm.len Nm.one (Vw.pick 5 rfl Vw.row) | exact Src.flatv Nm.len Nm.one (Vw.pick 6 rfl Vw.row)) (by simp only [List.length_cons, List.length_nil]; omega) (by simp only [List.length_cons, List.length_nil]; omega)) rfl ?_
        rintro _ _ ⟨p31, c31, rfl, hn31, rfl⟩
        simp only [List.set_cons_zero, List.set_cons_succ]
        refine ops_ro' rfl (ro_assign rfl) rfl ?_
        refine ops_nil ?_
        refine InBlock_normal ?_
        refine Then_normal ?_
        refine wp_region' ?_
        refine ops_ro' rfl (ro_move rfl) rfl ?_
        refine ops_ro' rfl (ro_sub rfl rfl (show IntKind.u32.wrap ((n : Int) - 1) = ((n - 1 : Nat) : Int) from by rw [wrap_u32_mod]; omega)) rfl ?_
        refine ops_ro' rfl (ro_assign rfl) rfl ?_
        refine ops_nil ?_
        refine Then_normal ?_
        refine back (m - 1) (by omega) (kept ⟨n - 1, ((r.text 256).1.text 256).1.attrs.1, p31, c31, acc ++ [⟨(r.text 256).2, ((r.text 256).1.text 256).1.attrs.2⟩], ⟨by omega, by omega, by simp; omega, hlf.step (by omega) (by first | exact hc17 | simpa using hc17), good_attrs (R.good_text (R.good_text hg 256) 256)⟩, rfl, rfl⟩ ?_ ?_ ?_)
        · exact (by repeat (first | exact Has.nil _ | refine Has.cons rfl ?_))
        · exact (by repeat (first | exact Has.nil _ | refine Has.cons rfl ?_))
        · exact (SubH.cons 1 rfl (SubH.cons 1 rfl (SubH.cons 2 rfl (SubH.nil _))))
      · replace hc17 := of_decide_eq_false hc17
        refine wp_exit' ?_
        refine Then_exit ?_
        refine Then_exit ?_
        refine InBlock_here ?_
        refine Then_normal ?_
        refine wp_seq' ?_
        refine wp_region' ?_
        refine ops_ro' rfl (ro_move rfl) rfl ?_
        refine ops_ro' rfl (ro_assign rfl) rfl ?_
        refine ops_nil ?_
        refine Then_normal ?_
        refine wp_ret' ?_
        have hst : lstN n r = (r, []) := lstN_stop (by first | exact .inl (by omega) | exact .inr (by assumption) | exact .inr (by simpa using hc17))
        have HX : readL rr = (r, acc) := by rw [hL]; unfold Lft at hlf; rw [hlf, hst]; simp
        rw [HX]
        refine' doneS_ret (res1 rfl rfl) ?_ ?_
        rotate_left 1
        exact ⟨p, c, rfl, rfl⟩
        exact SubH.refl _
    · replace hg14 := of_decide_eq_false hg14
      refine ops_skip' rfl rfl ?_
      refine ops_skip' rfl rfl ?_
      refine ops_ro' rfl (ro_pick rfl rfl) rfl ?_
      refine ops_nil ?_
      refine Then_normal ?_
      refine wp_condF rfl ?_
      refine wp_exit' ?_
      refine Then_exit ?_
      refine Then_exit ?_
      refine InBlock_here ?_
      refine Then_normal ?_
      refine wp_seq' ?_
      refine wp_region' ?_
      refine ops_ro' rfl (ro_move rfl) rfl ?_
      refine ops_ro' rfl (ro_assign rfl) rfl ?_
      refine ops_nil ?_
      refine Then_normal ?_
      refine wp_ret' ?_
      have hst : lstN n r = (r, []) := lstN_stop (by first | exact .inl (by omega) | exact .inr (by assumption) | exact .inr (by simpa using hc17))
      have HX : readL rr = (r, acc) := by rw [hL]; unfold Lft at hlf; rw [hlf, hst]; simp
      rw [HX]
      refine' doneS_ret (res1 rfl rfl) ?_ ?_
      rotate_left 1
      exact ⟨p, c, rfl, rfl⟩
      exact SubH.refl _
theorem readL_good {r : R} (h : r.Good) : (readL r).1.Good := by
  have key : ∀ (n : Nat) (r : R), r.Good → (lstN n r).1.Good := fun n => by
    induction n with
    | zero => exact fun r h => h
    | succ n ih =>
      intro r h
      unfold lstN
      split
      · exact h
      · exact ih _ (good_attrs (R.good_text (R.good_text h 256) 256))
  exact key _ _ (gateN_good (R.good_get h 4) _ _)
def decB (k : Int) (r : R) : R × Pc :=
  if k = 1 then ((((gateN (r.get 4).1 (r.get 4).2 2147483647).text 256).1.text 256).1, { Pc.zero with k := k, s := (r.get 4).2 })
  else if k = 2 then ((r.text 256).1, { Pc.zero with k := k, h := (r.text 256).2 })
  else if k = 3 then ((r.text 32768).1, { Pc.zero with k := k, d := (r.text 32768).2 })
  else if k = 4 then ((readL r).1, { Pc.zero with k := k, ns := (readL r).2 })
  else (r.attrs.1, { Pc.zero with k := k, at' := r.attrs.2 })
def decP (b : List UInt8) : Nat × Pc × Int :=
  if b.length < 5 then (0, Pc.zero, 10)
  else if (((R.new b).get 1).2 : Int) - 100 < 1 ∨ 5 < (((R.new b).get 1).2 : Int) - 100 then ((((R.new b).get 1).1.get 4).2, Pc.zero, 23)
  else if (decB ((((R.new b).get 1).2 : Int) - 100) (((R.new b).get 1).1.get 4).1).1.fin.1 = 0 then ((((R.new b).get 1).1.get 4).2, (decB ((((R.new b).get 1).2 : Int) - 100) (((R.new b).get 1).1.get 4).1).2, 0)
  else ((((R.new b).get 1).1.get 4).2, Pc.zero, 12)


theorem sfDecP_spec (V : HProp) (p : Option Addr) (c : Nat) (b : List UInt8) (hV : Vw V (.slice p b.length c) b.length (cel b)) (hb : b.length ≤ 140737488355328) : Tri Try.prog 40 [.slice p b.length c] [V]
    (fun v H' => ∃ dp dn np nn, v = .tuple #[.int .u32 ((decP b).1 : Int), (decP b).2.1.v dp dn np nn, .int .i64 (decP b).2.2] ∧ H' = [row 5 1 (.slice dp (decP b).2.1.d.length dn) (decP b).2.1.d.length (cel (decP b).2.1.d), row 120 8 (.slice np (decP b).2.1.ns.length nn) (decP b).2.1.ns.length (flat Nm.cs (decP b).2.1.ns), V]) := by
  refine tri_of_wpS Try.func40 rfl Try.ntmps40 (by simp) ?_
  refine wp_seq' ?_
  refine wp_region' ?_
  refine ops_ro' rfl (ro_assign rfl) rfl ?_
  refine ops_eff' rfl (eff_alloc z66) rfl ?_
  rintro _ _ ⟨b3, rfl, rfl⟩
  refine ops_ro' rfl (ro_assign rfl) rfl ?_
  refine ops_nil ?_
  refine Then_normal ?_
  refine wp_seq' ?_
  refine wp_seq' ?_
  refine wp_region' ?_
  refine ops_ro' rfl (ro_move rfl) rfl ?_
  refine ops_ro' rfl (ro_sliceLen Try.underlying32 rfl) rfl ?_
  refine ops_ro' rfl (ro_lss rfl rfl rfl) rfl ?_
  refine ops_nil ?_
  refine Then_normal ?_
  refine wp_cond' rfl (fun hc11 => ?_) (fun hc11 => ?_)
  · replace hc11 := of_decide_eq_true hc11
    refine wp_seq' ?_
    refine wp_region' ?_
    refine ops_ro' rfl (ro_build rfl (bld_struct (cs := Pc.zero.cs none 0 none 0) st66 rfl)) rfl ?_
    refine ops_ro' rfl (ro_assign rfl) rfl ?_
    refine ops_eff0 rfl (eff_storeA 0 ag66 rfl rfl rfl rfl rfl (Nat.le_of_ble_eq_true rfl) (warm_zero _)) rfl ?_
    rintro _ _ rfl
    refine ops_ro' rfl (ro_assign rfl) rfl ?_
    refine ops_nil ?_
    refine Then_normal ?_
    refine wp_ret' ?_
    refine Then_ret ?_
    refine' doneS_ret (resv3 rfl (rv_tmp rfl) (rv_cellA ag66 rfl (by first | exact RdN.of_pick 0 rfl rdn_all | exact RdN.of_pick 1 rfl rdn_all | exact RdN.of_pick 2 rfl rdn_all | exact RdN.of_pick 3 rfl rdn_all | exact RdN.of_pick 4 rfl rdn_all | exact RdN.of_pick 5 rfl rdn_all | exact RdN.of_pick 6 rfl rdn_all | exact RdN.of_pick 7 rfl rdn_all) rfl) (rv_tmp rfl)) ?_ ?_
    rotate_left 1
    have HX : decP b = (0, Pc.zero, 10) := by unfold decP; rw [if_pos (by omega)]
    rw [HX]
    exact ⟨none, 0, none, 0, rfl, rfl⟩
    exact (SubH.rown (SubH.rown (SubH.cons 1 rfl (SubH.nil _))))
  · replace hc11 := of_decide_eq_false hc11
    refine wp_skip' ?_
    refine Then_normal ?_
    refine wp_seq' ?_
    refine wp_region' ?_
    refine ops_ro' rfl (ro_move rfl) rfl ?_
    refine ops_eff' rfl (eff_call Try.call55 rfl rfl (by repeat (first | exact Split.nil _ | apply Split.cons 0 rfl | apply Split.cons 1 rfl | apply Split.cons 2 rfl | apply Split.cons 3 rfl | apply Split.cons 4 rfl | apply Split.cons 5 rfl | apply Split.cons 6 rfl | apply Split.cons 7 rfl | apply Split.cons 8 rfl | apply Split.cons 9 rfl | apply Split.cons 10 rfl | apply Split.cons 11 rfl)) (newReader_spec V p c b hV hb)) rfl ?_
    rintro _ H' ⟨_, ⟨pr, q, cr, rfl, rfl⟩, hH⟩
    simp only [List.cons_append, List.nil_append, List.eraseIdx_cons_zero, List.eraseIdx_cons_succ, List.set_cons_zero, List.set_cons_succ] at hH
    subst hH
    have hg00 := R.good_new b hb
    refine ops_ro' rfl (ro_assign rfl) rfl ?_
    refine ops_nil ?_
    refine Then_normal ?_
    refine wp_seq' ?_
    refine wp_region' ?_
    refine ops_ro' rfl (ro_move rfl) rfl ?_
    refine ops_eff' rfl (eff_call Try.call59 rfl rfl (by repeat (first | exact Split.nil _ | apply Split.cons 0 rfl | apply Split.cons 1 rfl | apply Split.cons 2 rfl | apply Split.cons 3 rfl | apply Split.cons 4 rfl | apply Split.cons 5 rfl | apply Split.cons 6 rfl | apply Split.cons 7 rfl | apply Split.cons 8 rfl | apply Split.cons 9 rfl | apply Split.cons 10 rfl | apply Split.cons 11 rfl)) (rByte_spec pr q cr (R.new b) hg00)) rfl ?_
    rintro _ H' ⟨_, ⟨rfl, rfl⟩, hH⟩
    simp only [List.cons_append, List.nil_append, List.eraseIdx_cons_zero, List.eraseIdx_cons_succ, List.set_cons_zero, List.set_cons_succ] at hH
    subst hH
    have hg01 := R.good_get hg00 1
    have hl1 := get_lt (R.new b) 1
    simp only [Nat.reducePow] at hl1
    generalize e1 : (R.new b).get 1 = t1 at *
    obtain ⟨r1, kk⟩ := t1
    simp only at *
    refine ops_ro' rfl (ro_sub rfl rfl (wrap_i64_in (by omega) (by omega))) rfl ?_
    refine ops_ro' rfl (ro_build rfl (bld_struct (cs := Pc.cs { Pc.zero with k := (kk : Int) - 100 } none 0 none 0) st66 rfl)) rfl ?_
    refine ops_eff' rfl (eff_alloc z66) rfl ?_
    rintro _ _ ⟨b6, rfl, rfl⟩
    refine ops_eff0 rfl (eff_storeA 0 ag66 rfl rfl rfl rfl rfl (Nat.le_of_ble_eq_true rfl) (warm_zero _)) rfl ?_
    rintro _ _ rfl
    refine ops_nil ?_
    refine Then_normal ?_
    refine wp_seq' ?_
    refine wp_region' ?_
    refine ops_ro' rfl (ro_move rfl) rfl ?_
    refine ops_eff' rfl (eff_call Try.call60 rfl rfl (by repeat (first | exact Split.nil _ | apply Split.cons 0 rfl | apply Split.cons 1 rfl | apply Split.cons 2 rfl | apply Split.cons 3 rfl | apply Split.cons 4 rfl | apply Split.cons 5 rfl | apply Split.cons 6 rfl | apply Split.cons 7 rfl | apply Split.cons 8 rfl | apply Split.cons 9 rfl | apply Split.cons 10 rfl | apply Split.cons 11 rfl)) (rU32_spec pr q cr r1 hg01.len hg01.pos)) rfl ?_
    rintro _ H' ⟨_, ⟨rfl, rfl⟩, hH⟩
    simp only [List.cons_append, List.nil_append, List.eraseIdx_cons_zero, List.eraseIdx_cons_succ, List.set_cons_zero, List.set_cons_succ] at hH
    subst hH
    have hg0 := R.good_get hg01 4
    generalize e2 : r1.get 4 = t2 at *
    obtain ⟨r0, id⟩ := t2
    simp only at *
    refine ops_ro' rfl (ro_assign rfl) rfl ?_
    refine ops_nil ?_
    refine Then_normal ?_
    refine wp_cutK 1023 (fun Δ LL => ∃ (r8 : R) (c8 : Pc) (dp : Option Addr) (dn : Nat) (np : Option Addr) (nn : Nat), ((r8, c8) = decB ((kk : Int) - 100) r0 ∧ r8.Good ∧ 1 ≤ (kk : Int) - 100 ∧ (kk : Int) - 100 ≤ 5) ∧ Δ = [] ∧ LL = [own b6 (.cells (Pc.cs c8 dp dn np nn).toArray 66 (0, 0)), own pr (.cells [Value.slice q r8.b.length cr, .int .i64 r8.pos, .int .i64 r8.why, .int .i64 r8.place].toArray 141 (0, 0)), row 5 1 (.slice q r8.b.length cr) r8.b.length (cel r8.b), row 5 1 (.slice dp c8.d.length dn) c8.d.length (cel c8.d), row 120 8 (.slice np c8.ns.length nn) c8.ns.length (flat Nm.cs c8.ns), own b3 (.cells (Pc.zero.cs none 0 none 0).toArray 66 (0, 0)), V]) (Has.cons (k := 3) rfl (Has.cons (k := 5) rfl (Has.cons (k := 6) rfl (Has.cons (k := 7) rfl (Has.nil _))))) ?_ ?_
    · refine wp_seq' ?_
      refine wp_region' ?_
      refine ops_ro' rfl (ro_fieldAddr fa66_0 rfl) rfl ?_
      refine ops_ro' rfl (ro_load sc3 rfl (Rd.pick 2 rfl (Rd.own rfl))) rfl ?_
      refine ops_nil ?_
      refine Then_normal ?_
      refine wp_block' ?_
      refine wp_seq' ?_
      refine wp_region' ?_
      refine ops_ro' rfl (ro_eql rfl rfl rfl) rfl ?_
      refine ops_ro' rfl (ro_assign rfl) rfl ?_
      refine ops_nil ?_
      refine Then_normal ?_
      refine wp_cond' rfl (fun hc25 => ?_) (fun hc25 => ?_)
      · replace hc25 := of_decide_eq_true hc25
        dsimp only at hc25
        refine wp_seq' ?_
        refine wp_region' ?_
        refine ops_ro' rfl (ro_move rfl) rfl ?_
        refine ops_eff' rfl (eff_call Try.call60 rfl rfl (by repeat (first | exact Split.nil _ | apply Split.cons 0 rfl | apply Split.cons 1 rfl | apply Split.cons 2 rfl | apply Split.cons 3 rfl | apply Split.cons 4 rfl | apply Split.cons 5 rfl | apply Split.cons 6 rfl | apply Split.cons 7 rfl | apply Split.cons 8 rfl | apply Split.cons 9 rfl | apply Split.cons 10 rfl | apply Split.cons 11 rfl)) (rU32_spec pr q cr r0 hg0.len hg0.pos)) rfl ?_
        rintro _ H' ⟨_, ⟨rfl, rfl⟩, hH⟩
        simp only [List.cons_append, List.nil_append, List.eraseIdx_cons_zero, List.eraseIdx_cons_succ, List.set_cons_zero, List.set_cons_succ] at hH
        subst hH
        have hl2 := get_lt r0 4
        simp only [Nat.reducePow] at hl2
        have hg2 := R.good_get hg0 4
        generalize e3 : r0.get 4 = t3 at *
        obtain ⟨r2, n2⟩ := t3
        simp only at *
        refine ops_ro' rfl (ro_assign rfl) rfl ?_
        refine ops_nil ?_
        refine Then_normal ?_
        refine wp_cutK 1012 (fun Δ LL => ∃ (r3 : R), (r3 = gateN r2 n2 2147483647 ∧ r3.Good) ∧ Δ = [] ∧ LL = [own b6 (.cells (Pc.cs { Pc.zero with k := (kk : Int) - 100 } none 0 none 0).toArray 66 (0, 0)), own pr (.cells [Value.slice q r3.b.length cr, .int .i64 r3.pos, .int .i64 r3.why, .int .i64 r3.place].toArray 141 (0, 0)), row 5 1 (.slice q r3.b.length cr) r3.b.length (cel r3.b), own b3 (.cells (Pc.zero.cs none 0 none 0).toArray 66 (0, 0)), V]) (Has.cons (k := 3) rfl (Has.cons (k := 5) rfl (Has.cons (k := 6) rfl (Has.cons (k := 7) rfl (Has.cons (k := 8) rfl (Has.nil _)))))) ?_ ?_
        · refine wp_seq' ?_
          refine wp_region' ?_
          refine ops_ro' rfl (ro_move rfl) rfl ?_
          refine ops_ro' rfl (ro_gtr rfl rfl rfl) rfl ?_
          refine ops_nil ?_
          refine Then_normal ?_
          refine wp_cond' rfl (fun hc30 => ?_) (fun hc30 => ?_)
          · replace hc30 := of_decide_eq_true hc30
            refine wp_region' ?_
            refine ops_ro' rfl (ro_move rfl) rfl ?_
            refine ops_eff' rfl (eff_call Try.call77 rfl rfl (by repeat (first | exact Split.nil _ | apply Split.cons 0 rfl | apply Split.cons 1 rfl | apply Split.cons 2 rfl | apply Split.cons 3 rfl | apply Split.cons 4 rfl | apply Split.cons 5 rfl | apply Split.cons 6 rfl | apply Split.cons 7 rfl | apply Split.cons 8 rfl | apply Split.cons 9 rfl | apply Split.cons 10 rfl | apply Split.cons 11 rfl)) (fail_spec pr q cr r2 12)) rfl ?_
            rintro _ H' ⟨_, ⟨rfl, rfl⟩, hH⟩
            simp only [List.cons_append, List.nil_append, List.eraseIdx_cons_zero, List.eraseIdx_cons_succ, List.set_cons_zero, List.set_cons_succ] at hH
            subst hH
            refine ops_nil ?_
            refine Then_normal ?_
            refine over_cut (kept ⟨r2.fail 12, ⟨by unfold gateN; rw [if_pos (by omega)], R.good_fail hg2 12⟩, rfl, rfl⟩ ?_ ?_ ?_)
            · exact (by repeat (first | exact Has.nil _ | refine Has.cons rfl ?_))
            · exact (by repeat (first | exact Has.nil _ | refine Has.cons rfl ?_))
            · exact (SubH.cons 2 rfl (SubH.cons 0 rfl (SubH.cons 0 rfl (SubH.cons 1 rfl (SubH.cons 0 rfl (SubH.nil _))))))
          · replace hc30 := of_decide_eq_false hc30
            refine wp_skip' ?_
            refine Then_normal ?_
            refine over_cut (kept ⟨r2, ⟨by unfold gateN; rw [if_neg (by omega)], hg2⟩, rfl, rfl⟩ ?_ ?_ ?_)
            · exact (by repeat (first | exact Has.nil _ | refine Has.cons rfl ?_))
            · exact (by repeat (first | exact Has.nil _ | refine Has.cons rfl ?_))
            · exact (SubH.cons 2 rfl (SubH.cons 0 rfl (SubH.cons 0 rfl (SubH.cons 1 rfl (SubH.cons 0 rfl (SubH.nil _))))))
        · rintro Δ LL ⟨r3, ⟨er3, hg3⟩, rfl, rfl⟩
          simp only [List.cons_append, List.nil_append]
          refine wp_seq' ?_
          refine wp_region' ?_
          refine ops_ro' rfl (ro_move rfl) rfl ?_
          refine ops_ro' rfl (ro_conv Try.underlying40 Try.underlying3 rfl (wrap_natN (by omega))) rfl ?_
          refine ops_ro' rfl (ro_fieldAddr fa66_1 rfl) rfl ?_
          refine ops_eff0 rfl (eff_store 0 sc3 rfl rfl rfl rfl (Nat.le_of_ble_eq_true rfl) (warm_zero _)) rfl ?_
          rintro _ _ rfl
          refine ops_nil ?_
          refine Then_normal ?_
          refine wp_seq' ?_
          refine wp_region' ?_
          refine ops_ro' rfl (ro_move rfl) rfl ?_
          refine ops_eff' rfl (eff_call Try.call62 rfl rfl (by repeat (first | exact Split.nil _ | apply Split.cons 0 rfl | apply Split.cons 1 rfl | apply Split.cons 2 rfl | apply Split.cons 3 rfl | apply Split.cons 4 rfl | apply Split.cons 5 rfl | apply Split.cons 6 rfl | apply Split.cons 7 rfl | apply Split.cons 8 rfl | apply Split.cons 9 rfl | apply Split.cons 10 rfl | apply Split.cons 11 rfl)) (rText_spec pr q cr r3 hg3 256 (by decide))) rfl ?_
          rintro _ H' ⟨_, ⟨rfl, rfl⟩, hH⟩
          simp only [List.cons_append, List.nil_append, List.eraseIdx_cons_zero, List.eraseIdx_cons_succ, List.set_cons_zero, List.set_cons_succ] at hH
          subst hH
          refine ops_nil ?_
          refine Then_normal ?_
          refine wp_region' ?_
          refine ops_ro' rfl (ro_move rfl) rfl ?_
          refine ops_eff' rfl (eff_call Try.call62 rfl rfl (by repeat (first | exact Split.nil _ | apply Split.cons 0 rfl | apply Split.cons 1 rfl | apply Split.cons 2 rfl | apply Split.cons 3 rfl | apply Split.cons 4 rfl | apply Split.cons 5 rfl | apply Split.cons 6 rfl | apply Split.cons 7 rfl | apply Split.cons 8 rfl | apply Split.cons 9 rfl | apply Split.cons 10 rfl | apply Split.cons 11 rfl)) (rText_spec pr q cr (r3.text 256).1 (R.good_text hg3 256) 256 (by decide))) rfl ?_
          rintro _ H' ⟨_, ⟨rfl, rfl⟩, hH⟩
          simp only [List.cons_append, List.nil_append, List.eraseIdx_cons_zero, List.eraseIdx_cons_succ, List.set_cons_zero, List.set_cons_succ] at hH
          subst hH
          refine ops_nil ?_
          refine InBlock_normal ?_
          refine Then_normal ?_
          refine over_cut (kept ⟨((r3.text 256).1.text 256).1, { Pc.zero with k := (kk : Int) - 100, s := (n2 : Int) }, none, 0, none, 0, ⟨by unfold decB; rw [if_pos (by omega), e3, er3], R.good_text (R.good_text hg3 256) 256, by omega, by omega⟩, rfl, rfl⟩ ?_ ?_ ?_)
          · exact (by repeat (first | exact Has.nil _ | refine Has.cons rfl ?_))
          · exact (by repeat (first | exact Has.nil _ | refine Has.cons rfl ?_))
          · exact (SubH.cons 2 rfl (SubH.cons 0 rfl (SubH.cons 0 rfl (SubH.rown (SubH.rown (SubH.cons 0 rfl (SubH.cons 0 rfl (SubH.nil _))))))))
      · replace hc25 := of_decide_eq_false hc25
        dsimp only at hc25
        refine wp_seq' ?_
        refine wp_region' ?_
        refine ops_ro' rfl (ro_eql rfl rfl rfl) rfl ?_
        refine ops_ro' rfl (ro_assign rfl) rfl ?_
        refine ops_nil ?_
        refine Then_normal ?_
        refine wp_cond' rfl (fun hc40 => ?_) (fun hc40 => ?_)
        · replace hc40 := of_decide_eq_true hc40
          dsimp only at hc40
          refine wp_region' ?_
          refine ops_ro' rfl (ro_move rfl) rfl ?_
          refine ops_eff' rfl (eff_call Try.call62 rfl rfl (by repeat (first | exact Split.nil _ | apply Split.cons 0 rfl | apply Split.cons 1 rfl | apply Split.cons 2 rfl | apply Split.cons 3 rfl | apply Split.cons 4 rfl | apply Split.cons 5 rfl | apply Split.cons 6 rfl | apply Split.cons 7 rfl | apply Split.cons 8 rfl | apply Split.cons 9 rfl | apply Split.cons 10 rfl | apply Split.cons 11 rfl)) (rText_spec pr q cr r0 hg0 256 (by decide))) rfl ?_
          rintro _ H' ⟨_, ⟨rfl, rfl⟩, hH⟩
          simp only [List.cons_append, List.nil_append, List.eraseIdx_cons_zero, List.eraseIdx_cons_succ, List.set_cons_zero, List.set_cons_succ] at hH
          subst hH
          refine ops_ro' rfl (ro_fieldAddr fa66_2 rfl) rfl ?_
          refine ops_eff0 rfl (eff_store 2 sc9 rfl rfl rfl rfl (Nat.le_of_ble_eq_true rfl) (warm_zero _)) rfl ?_
          rintro _ _ rfl
          refine ops_nil ?_
          refine InBlock_normal ?_
          refine Then_normal ?_
          refine over_cut (kept ⟨(r0.text 256).1, { Pc.zero with k := (kk : Int) - 100, h := (r0.text 256).2 }, none, 0, none, 0, ⟨by unfold decB; rw [if_neg (by omega), if_pos (by omega)], R.good_text hg0 256, by omega, by omega⟩, rfl, rfl⟩ ?_ ?_ ?_)
          · exact (by repeat (first | exact Has.nil _ | refine Has.cons rfl ?_))
          · exact (by repeat (first | exact Has.nil _ | refine Has.cons rfl ?_))
          · exact (SubH.cons 2 rfl (SubH.cons 0 rfl (SubH.cons 0 rfl (SubH.rown (SubH.rown (SubH.cons 1 rfl (SubH.cons 0 rfl (SubH.nil _))))))))
        · replace hc40 := of_decide_eq_false hc40
          dsimp only at hc40
          refine wp_seq' ?_
          refine wp_region' ?_
          refine ops_ro' rfl (ro_eql rfl rfl rfl) rfl ?_
          refine ops_ro' rfl (ro_assign rfl) rfl ?_
          refine ops_nil ?_
          refine Then_normal ?_
          refine wp_cond' rfl (fun hc45 => ?_) (fun hc45 => ?_)
          · replace hc45 := of_decide_eq_true hc45
            dsimp only at hc45
            refine wp_region' ?_
            refine ops_ro' rfl (ro_move rfl) rfl ?_
            refine ops_eff' rfl (eff_call Try.call62 rfl rfl (by repeat (first | exact Split.nil _ | apply Split.cons 0 rfl | apply Split.cons 1 rfl | apply Split.cons 2 rfl | apply Split.cons 3 rfl | apply Split.cons 4 rfl | apply Split.cons 5 rfl | apply Split.cons 6 rfl | apply Split.cons 7 rfl | apply Split.cons 8 rfl | apply Split.cons 9 rfl | apply Split.cons 10 rfl | apply Split.cons 11 rfl)) (rText_spec pr q cr r0 hg0 32768 (by decide))) rfl ?_
            rintro _ H' ⟨_, ⟨rfl, rfl⟩, hH⟩
            simp only [List.cons_append, List.nil_append, List.eraseIdx_cons_zero, List.eraseIdx_cons_succ, List.set_cons_zero, List.set_cons_succ] at hH
            subst hH
            refine ops_eff' rfl (eff_toBytesS Try.underlying9 Try.underlying32 Try.underlying5 rfl (by have h9 := R.text_len r0 32768; simp only [maxLen]; omega)) rfl ?_
            rintro _ _ ⟨b49, c49, rfl, rfl⟩
            refine ops_ro' rfl (ro_fieldAddr fa66_3 rfl) rfl ?_
            refine ops_eff0 rfl (eff_store 3 sc32 rfl rfl rfl rfl (Nat.le_of_ble_eq_true rfl) (warm_zero _)) rfl ?_
            rintro _ _ rfl
            refine ops_nil ?_
            refine InBlock_normal ?_
            refine Then_normal ?_
            refine over_cut (kept ⟨(r0.text 32768).1, { Pc.zero with k := (kk : Int) - 100, d := (r0.text 32768).2 }, some ⟨b49, 0, none⟩, c49, none, 0, ⟨by unfold decB; rw [if_neg (by omega), if_neg (by omega), if_pos (by omega)], R.good_text hg0 32768, by omega, by omega⟩, rfl, rfl⟩ ?_ ?_ ?_)
            · exact (by repeat (first | exact Has.nil _ | refine Has.cons rfl ?_))
            · exact (by repeat (first | exact Has.nil _ | refine Has.cons rfl ?_))
            · exact (SubH.cons 3 rfl (SubH.cons 1 rfl (SubH.cons 1 rfl (SubH.cons 0 rfl (SubH.rown (SubH.cons 1 rfl (SubH.cons 0 rfl (SubH.nil _))))))))
          · replace hc45 := of_decide_eq_false hc45
            dsimp only at hc45
            refine wp_seq' ?_
            refine wp_region' ?_
            refine ops_ro' rfl (ro_eql rfl rfl rfl) rfl ?_
            refine ops_ro' rfl (ro_assign rfl) rfl ?_
            refine ops_nil ?_
            refine Then_normal ?_
            refine wp_cond' rfl (fun hc51 => ?_) (fun hc51 => ?_)
            · replace hc51 := of_decide_eq_true hc51
              dsimp only at hc51
              refine wp_region' ?_
              refine ops_ro' rfl (ro_move rfl) rfl ?_
              refine ops_eff' rfl (eff_call Try.call78 rfl rfl (by repeat (first | exact Split.nil _ | apply Split.cons 0 rfl | apply Split.cons 1 rfl | apply Split.cons 2 rfl | apply Split.cons 3 rfl | apply Split.cons 4 rfl | apply Split.cons 5 rfl | apply Split.cons 6 rfl | apply Split.cons 7 rfl | apply Split.cons 8 rfl | apply Split.cons 9 rfl | apply Split.cons 10 rfl | apply Split.cons 11 rfl)) (sfList_spec pr q cr r0 hg0)) rfl ?_
              rintro _ H' ⟨_, ⟨p54, c54, rfl, rfl⟩, hH⟩
              simp only [List.cons_append, List.nil_append, List.eraseIdx_cons_zero, List.eraseIdx_cons_succ, List.set_cons_zero, List.set_cons_succ] at hH
              subst hH
              refine ops_ro' rfl (ro_fieldAddr fa66_4 rfl) rfl ?_
              refine ops_eff0 rfl (eff_store 3 sc64 rfl rfl rfl rfl (Nat.le_of_ble_eq_true rfl) (warm_zero _)) rfl ?_
              rintro _ _ rfl
              refine ops_nil ?_
              refine InBlock_normal ?_
              refine Then_normal ?_
              refine over_cut (kept ⟨(readL r0).1, { Pc.zero with k := (kk : Int) - 100, ns := (readL r0).2 }, none, 0, p54, c54, ⟨by unfold decB; rw [if_neg (by omega), if_neg (by omega), if_neg (by omega), if_pos (by omega)], readL_good hg0, by omega, by omega⟩, rfl, rfl⟩ ?_ ?_ ?_)
              · exact (by repeat (first | exact Has.nil _ | refine Has.cons rfl ?_))
              · exact (by repeat (first | exact Has.nil _ | refine Has.cons rfl ?_))
              · exact (SubH.cons 3 rfl (SubH.cons 0 rfl (SubH.cons 0 rfl (SubH.rown (SubH.cons 0 rfl (SubH.cons 1 rfl (SubH.cons 0 rfl (SubH.nil _))))))))
            · replace hc51 := of_decide_eq_false hc51
              dsimp only at hc51
              refine wp_seq' ?_
              refine wp_region' ?_
              refine ops_ro' rfl (ro_eql rfl rfl rfl) rfl ?_
              refine ops_ro' rfl (ro_assign rfl) rfl ?_
              refine ops_nil ?_
              refine Then_normal ?_
              refine wp_cond' rfl (fun hc56 => ?_) (fun hc56 => ?_)
              · replace hc56 := of_decide_eq_true hc56
                dsimp only at hc56
                refine wp_region' ?_
                refine ops_ro' rfl (ro_move rfl) rfl ?_
                refine ops_eff' rfl (eff_call Try.call64 rfl rfl (by repeat (first | exact Split.nil _ | apply Split.cons 0 rfl | apply Split.cons 1 rfl | apply Split.cons 2 rfl | apply Split.cons 3 rfl | apply Split.cons 4 rfl | apply Split.cons 5 rfl | apply Split.cons 6 rfl | apply Split.cons 7 rfl | apply Split.cons 8 rfl | apply Split.cons 9 rfl | apply Split.cons 10 rfl | apply Split.cons 11 rfl)) (aget_spec pr q cr r0 hg0.len hg0.pos)) rfl ?_
                rintro _ H' ⟨_, ⟨rfl, rfl⟩, hH⟩
                simp only [List.cons_append, List.nil_append, List.eraseIdx_cons_zero, List.eraseIdx_cons_succ, List.set_cons_zero, List.set_cons_succ] at hH
                subst hH
                refine ops_ro' rfl (ro_fieldAddr fa66_5 rfl) rfl ?_
                refine ops_eff0 rfl (eff_storeA 2 ag54 rfl rfl rfl rfl rfl (Nat.le_of_ble_eq_true rfl) (warm_zero _)) rfl ?_
                rintro _ _ rfl
                refine ops_nil ?_
                refine InBlock_normal ?_
                refine Then_normal ?_
                refine over_cut (kept ⟨r0.attrs.1, { Pc.zero with k := (kk : Int) - 100, at' := r0.attrs.2 }, none, 0, none, 0, ⟨by unfold decB; rw [if_neg (by omega), if_neg (by omega), if_neg (by omega), if_neg (by omega)], good_attrs hg0, by omega, by omega⟩, rfl, rfl⟩ ?_ ?_ ?_)
                · exact (by repeat (first | exact Has.nil _ | refine Has.cons rfl ?_))
                · exact (by repeat (first | exact Has.nil _ | refine Has.cons rfl ?_))
                · exact (SubH.cons 2 rfl (SubH.cons 0 rfl (SubH.cons 0 rfl (SubH.rown (SubH.rown (SubH.cons 1 rfl (SubH.cons 0 rfl (SubH.nil _))))))))
              · replace hc56 := of_decide_eq_false hc56
                dsimp only at hc56
                refine wp_seq' ?_
                refine wp_region' ?_
                refine ops_ro' rfl (ro_move rfl) rfl ?_
                refine ops_ro' rfl (ro_build rfl (bld_struct (cs := Pc.zero.cs none 0 none 0) st66 rfl)) rfl ?_
                refine ops_ro' rfl (ro_assign rfl) rfl ?_
                refine ops_eff0 rfl (eff_storeA 4 ag66 rfl rfl rfl rfl rfl (Nat.le_of_ble_eq_true rfl) (warm_zero _)) rfl ?_
                rintro _ _ rfl
                refine ops_ro' rfl (ro_assign rfl) rfl ?_
                refine ops_nil ?_
                refine Then_normal ?_
                refine wp_ret' ?_
                refine InBlock_ret ?_
                refine Then_ret ?_
                refine' doneS_ret (resv3 rfl (rv_tmp rfl) (rv_cellA ag66 rfl (by first | exact RdN.of_pick 0 rfl rdn_all | exact RdN.of_pick 1 rfl rdn_all | exact RdN.of_pick 2 rfl rdn_all | exact RdN.of_pick 3 rfl rdn_all | exact RdN.of_pick 4 rfl rdn_all | exact RdN.of_pick 5 rfl rdn_all | exact RdN.of_pick 6 rfl rdn_all | exact RdN.of_pick 7 rfl rdn_all) rfl) (rv_tmp rfl)) ?_ ?_
                rotate_left 1
                have HX : decP b = (id, Pc.zero, 23) := by
                  unfold decP
                  rw [if_neg (by omega), e1]
                  simp only
                  rw [e2]
                  simp only
                  rw [if_pos (by omega)]
                rw [HX]
                exact ⟨none, 0, none, 0, rfl, rfl⟩
                exact (SubH.rown (SubH.rown (SubH.cons 3 rfl (SubH.nil _))))
    · rintro Δ LL ⟨r8, c8, dp, dn, np, nn, ⟨f8, hg8, hk1, hk5⟩, rfl, rfl⟩
      simp only [List.cons_append, List.nil_append]
      refine wp_seq' ?_
      refine wp_seq' ?_
      refine wp_region' ?_
      refine ops_ro' rfl (ro_move rfl) rfl ?_
      refine ops_eff' rfl (eff_call Try.call65 rfl rfl (by repeat (first | exact Split.nil _ | apply Split.cons 0 rfl | apply Split.cons 1 rfl | apply Split.cons 2 rfl | apply Split.cons 3 rfl | apply Split.cons 4 rfl | apply Split.cons 5 rfl | apply Split.cons 6 rfl | apply Split.cons 7 rfl | apply Split.cons 8 rfl | apply Split.cons 9 rfl | apply Split.cons 10 rfl | apply Split.cons 11 rfl)) (rAll_spec pr q cr r8 hg8)) rfl ?_
      rintro _ H' ⟨_, ⟨rfl, rfl⟩, hH⟩
      simp only [List.cons_append, List.nil_append, List.eraseIdx_cons_zero, List.eraseIdx_cons_succ, List.set_cons_zero, List.set_cons_succ] at hH
      subst hH
      refine ops_ro' rfl (ro_not rfl rfl) rfl ?_
      refine ops_nil ?_
      refine Then_normal ?_
      refine wp_cond' rfl (fun hc63 => ?_) (fun hc63 => ?_)
      · simp only [Bool.and_eq_true, decide_eq_true_eq, Bool.not_eq_true', decide_eq_false_iff_not, bne_iff_ne, ne_eq] at hc63
        refine wp_seq' ?_
        refine wp_region' ?_
        refine ops_ro' rfl (ro_move rfl) rfl ?_
        refine ops_ro' rfl (ro_build rfl (bld_struct (cs := Pc.zero.cs none 0 none 0) st66 rfl)) rfl ?_
        refine ops_ro' rfl (ro_assign rfl) rfl ?_
        refine ops_eff0 rfl (eff_storeA 5 ag66 rfl rfl rfl rfl rfl (Nat.le_of_ble_eq_true rfl) (warm_zero _)) rfl ?_
        rintro _ _ rfl
        refine ops_ro' rfl (ro_assign rfl) rfl ?_
        refine ops_nil ?_
        refine Then_normal ?_
        refine wp_ret' ?_
        refine Then_ret ?_
        refine' doneS_ret (resv3 rfl (rv_tmp rfl) (rv_cellA ag66 rfl (by first | exact RdN.of_pick 0 rfl rdn_all | exact RdN.of_pick 1 rfl rdn_all | exact RdN.of_pick 2 rfl rdn_all | exact RdN.of_pick 3 rfl rdn_all | exact RdN.of_pick 4 rfl rdn_all | exact RdN.of_pick 5 rfl rdn_all | exact RdN.of_pick 6 rfl rdn_all | exact RdN.of_pick 7 rfl rdn_all) rfl) (rv_tmp rfl)) ?_ ?_
        rotate_left 1
        have HX : decP b = (id, Pc.zero, 12) := by
          unfold decP
          rw [if_neg (by omega), e1]
          simp only
          rw [e2]
          simp only
          rw [if_neg (by omega), ← f8]
          simp only
          rw [if_neg (by simp_all)]
        rw [HX]
        exact ⟨none, 0, none, 0, rfl, rfl⟩
        exact (SubH.rown (SubH.rown (SubH.cons 6 rfl (SubH.nil _))))
      · simp only [Bool.and_eq_false_iff, decide_eq_false_iff_not, Bool.not_eq_false', decide_eq_true_eq] at hc63
        refine wp_skip' ?_
        refine Then_normal ?_
        refine wp_seq' ?_
        refine wp_draw 3 (by kernel_rfl) (Split.all _) ?_
        refine any_ro' (i := 0) (by kernel_rfl) rfl rfl (ro_move rfl) rfl (fun _ _ _ h => h) ?_
        refine any_ro' (i := 1) (by kernel_rfl) rfl rfl (ro_loadA ag66 rfl (RdN.of_pick 2 rfl rdn_all) rfl) rfl (fun _ _ _ h => h) ?_
        refine any_ro' (i := 2) (by kernel_rfl) rfl rfl (ro_assign rfl) rfl (fun _ _ _ h => h) ?_
        refine any_unlock (m' := 5) (L' := []) (by kernel_rfl) unlock ?_
        simp only [List.cons_append, List.nil_append, List.append_nil]
        refine any_eff0 (i := 3) (by kernel_rfl) rfl rfl (eff_storeA 5 ag66 rfl rfl rfl rfl rfl (Nat.le_of_ble_eq_true rfl) (warm_zero _)) rfl ?_
        rintro _ _ rfl
        refine any_ro' (i := 4) (by kernel_rfl) rfl rfl (ro_assign rfl) rfl (fun _ _ _ h => h) ?_
        refine any_doneH (by kernel_rfl) ?_
        refine Then_normal ?_
        refine wp_ret' ?_
        refine' doneS_ret (resv3 rfl (rv_tmp rfl) (rv_cellA ag66 rfl (by first | exact RdN.of_pick 0 rfl rdn_all | exact RdN.of_pick 1 rfl rdn_all | exact RdN.of_pick 2 rfl rdn_all | exact RdN.of_pick 3 rfl rdn_all | exact RdN.of_pick 4 rfl rdn_all | exact RdN.of_pick 5 rfl rdn_all | exact RdN.of_pick 6 rfl rdn_all | exact RdN.of_pick 7 rfl rdn_all) rfl) (rv_tmp rfl)) ?_ ?_
        rotate_left 1
        have HX : decP b = (id, c8, 0) := by
          unfold decP
          rw [if_neg (by omega), e1]
          simp only
          rw [e2]
          simp only
          rw [if_neg (by omega), ← f8]
          simp only
          rw [if_pos (by simp_all)]
        rw [HX]
        exact ⟨dp, dn, np, nn, rfl, rfl⟩
        exact (SubH.cons 3 rfl (SubH.cons 3 rfl (SubH.cons 4 rfl (SubH.nil _))))

end Go.Proofs.Ytigaolglnnjnmaa
