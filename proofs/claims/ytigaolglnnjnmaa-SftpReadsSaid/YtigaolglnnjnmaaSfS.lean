/-
  The walk of SftpReads.
-/
import Derived.Test.YtigaolglnnjnmaaSfR
import Derived.Test.YtigaolglnnjnmaaSfO
import Derived.Test.YtigaolglnnjnmaaSfH
import Derived.Test.YtigaolglnnjnmaaKBytes
import Derived.Test.YtigaolglnnjnmaaBook
import Derived.Test.YtigaolglnnjnmaaSxTrunc
namespace Go.Proofs.Ytigaolglnnjnmaa
open Go.Sx
set_option linter.unusedVariables false
set_option linter.unusedSimpArgs false
set_option maxRecDepth 100000
set_option maxHeartbeats 4000000

theorem within_tw (a lo hi : Int) (k : Nat) (h0 : 0 ≤ lo) (h1 : lo ≤ hi) (h2 : hi ≤ 4611686018427387904) (h : lo + a % (hi - lo + 1) = (k : Int)) : Tri Try.prog 38 [.int .i64 a, .int .i64 lo, .int .i64 hi] [] (fun v H' => v = .int .i64 (k : Int) ∧ H' = []) := by
  rw [← h]
  exact within_spec a lo hi h0 h1 h2
theorem shortQ_small (q : Rc) : (shortQ q).Small := ⟨by simp only [shortQ, List.length_take]; omega, by simp only [shortQ, List.length_take]; omega, by simp only [shortQ, List.length_take]; omega, by simp only [shortQ, List.length_take]; omega⟩
theorem encB_len (A : Ax × Bool) (id : Nat) {c : Rc} (h : c.Small) : (encB A id c).length ≤ 10000 := by
  unfold encB
  split
  · obtain ⟨a, ok⟩ := A
    have s1 := h.pa
    have s2 := h.to
    have s3 := h.ha
    have s4 := h.da
    have l1 := opt_len a.pa (txB c.pa) 400 (fun e => by simp only [txB, List.length_append, be_length]; omega)
    have l2 := opt_len a.to (txB c.to) 400 (fun e => by simp only [txB, List.length_append, be_length]; omega)
    have l3 := opt_len a.ha (txB c.ha) 400 (fun e => by simp only [txB, List.length_append, be_length]; omega)
    have l4 := opt_len a.off (be c.off 8) 8 (fun e => by rw [be_length]; omega)
    have l5 := opt_len a.len (be c.len 4) 8 (fun e => by rw [be_length]; omega)
    have l6 := opt_len a.da (txB c.da) 400 (fun e => by simp only [txB, List.length_append, be_length]; omega)
    have l7 := opt_len a.fl (be c.fl 4) 8 (fun e => by rw [be_length]; omega)
    have l8 := opt_len a.at' c.at'.enc 40 (fun e => by have := At.enc_le2 c.at'; omega)
    unfold reqB
    simp only [List.length_append, List.length_cons, be_length]
    omega
  · simp
theorem shortP_small (c : Pc) : (shortP c).h.length ≤ 300 ∧ (shortP c).d.length ≤ 300 ∧ (shortP c).ns.length ≤ 1000 ∧ ∀ x ∈ (shortP c).ns, x.n.length ≤ 300 := by
  refine ⟨by simp only [shortP, List.length_take]; omega, by simp only [shortP, List.length_take]; omega, by simp only [shortP, shN, List.length_map, List.length_take]; omega, fun x hx => ?_⟩
  simp only [shortP, shN, List.mem_map] at hx
  obtain ⟨y, hy, rfl⟩ := hx
  simp only [shn, List.length_take]; omega
theorem encP_len (id : Nat) (c : Pc) : (encP id (shortP c)).length ≤ 100000 := by
  unfold encP
  split
  · rename_i h
    obtain ⟨s1, s2, s3, s4⟩ := shortP_small c
    have hp := fine_parts h
    have h5 := At.enc_le2 (shortP c).at'
    have h3 : (shortP c).ns.length ≤ 6 := by simp only [shortP, shN, List.length_map, List.length_take]; omega
    unfold repB repBody
    split
    · simp only [List.length_append, List.length_cons, be_length]; omega
    split
    · simp only [txB, List.length_append, List.length_cons, be_length]; omega
    split
    · simp only [txB, List.length_append, List.length_cons, be_length]; omega
    split
    · rename_i e
      have h6 := fm_len (shortP c).ns (namesE_zero (hp.2.2.2.1 e)).2.1
      simp only [List.length_append, List.length_cons, be_length]; omega
    · simp only [List.length_append, List.length_cons, be_length]; omega
  · simp
/-- bytes that may be read -/
def Zs (V : HProp) (xs : List (Slv UInt8)) : Prop := ∀ x ∈ xs, Vw V x.v x.l.length (cel x.l) ∧ x.l.length ≤ x.c ∧ x.l.length ≤ 1000000
theorem zs_all {V : HProp} {x y z : Slv UInt8} (h1 : Vw V x.v x.l.length (cel x.l) ∧ x.l.length ≤ x.c ∧ x.l.length ≤ 1000000) (h2 : Vw V y.v y.l.length (cel y.l) ∧ y.l.length ≤ y.c ∧ y.l.length ≤ 1000000) (h3 : Vw V z.v z.l.length (cel z.l) ∧ z.l.length ≤ z.c ∧ z.l.length ≤ 1000000) : Zs V [x, y, z] := fun r hr => by
  simp only [List.mem_cons, List.not_mem_nil, or_false] at hr
  rcases hr with rfl | rfl | rfl
  · exact h1
  · exact h2
  · exact h3
theorem sftpreads_run (V : HProp) (id : Nat) (hid : id < 4294967296) (q : Rc) (hqo : q.Ok) (dp : Option Addr) (dn : Nat) (hq : Vw V (.slice dp q.da.length dn) q.da.length (cel q.da)) (hqc : q.da.length ≤ dn) (c : Pc) (ep : Option Addr) (en : Nat) (np : Option Addr) (nn : Nat) (hk : c.Ok V ep en np nn) (hkc : c.d.length ≤ en)
    (bp : Option Addr) (bc : Nat) (b : List UInt8) (hb : Vw V (.slice bp b.length bc) b.length (cel b)) (hbc : b.length ≤ bc) (at0 : Int) (ha : -9223372036854775808 ≤ at0 ∧ at0 ≤ 9223372036854775807) (tb : UInt8) (ct : Bool) :
    Tri Try.prog 10 [.int .u32 (id : Int), q.v dp dn, c.v ep en np nn, .slice bp b.length bc, .int .i64 at0, byteV tb, .bool ct] [V] (fun v H' => v = .bool true ∧ H' = [V]) := by
  refine tri_of_wpS Try.func10 rfl Try.ntmps10 (by simp) ?_
  refine wp_seq' ?_
  refine wp_region' ?_
  refine ops_eff' rfl (eff_box rfl) rfl ?_
  rintro _ _ ⟨b8, rfl, rfl⟩
  refine ops_eff' rfl (eff_box rfl) rfl ?_
  rintro _ _ ⟨b9, rfl, rfl⟩
  refine ops_ro' rfl (ro_assign rfl) rfl ?_
  refine ops_nil ?_
  refine Then_normal ?_
  refine wp_seq' ?_
  refine wp_region' ?_
  refine ops_ro' rfl (ro_move rfl) rfl ?_
  refine ops_ro' rfl (ro_loadA ag56 rfl (RdN.of_pick 1 rfl rdn_all) rfl) rfl ?_
  refine ops_eff' rfl (eff_call Try.call33 rfl rfl (by repeat (first | exact Split.nil _ | apply Split.cons 0 rfl | apply Split.cons 1 rfl | apply Split.cons 2 rfl | apply Split.cons 3 rfl | apply Split.cons 4 rfl | apply Split.cons 5 rfl | apply Split.cons 6 rfl | apply Split.cons 7 rfl | apply Split.cons 8 rfl | apply Split.cons 9 rfl | apply Split.cons 10 rfl | apply Split.cons 11 rfl)) (kShort_spec V q dp dn hq hqc)) rfl ?_
  rintro _ H' ⟨_, ⟨dp2, dn2, rfl, hq2, hqc2, rfl⟩, hH⟩
  simp only [List.cons_append, List.nil_append, List.eraseIdx_cons_zero, List.eraseIdx_cons_succ, List.set_cons_zero, List.set_cons_succ] at hH
  subst hH
  refine ops_eff' rfl (eff_callM (Pre := []) Try.call32 rfl rfl (Split.nil _) (r17Enc_spec _ id hid (shortQ q) (shortQ_ok hqo) (shortQ_small q) dp2 dn2 (by first | exact (Vw.pick 0 rfl hq2) | exact (Vw.pick 1 rfl hq2) | exact (Vw.pick 2 rfl hq2) | exact (Vw.pick 3 rfl hq2) | exact (Vw.pick 4 rfl hq2) | exact (Vw.pick 5 rfl hq2) | exact (Vw.pick 6 rfl hq2) | exact (Vw.pick 7 rfl hq2) | exact (Vw.pick 8 rfl hq2) | exact (Vw.pick 0 rfl hc2) | exact (Vw.pick 1 rfl hc2) | exact (Vw.pick 2 rfl hc2) | exact (Vw.pick 3 rfl hc2) | exact (Vw.pick 4 rfl hc2) | exact (Vw.pick 5 rfl hc2) | exact (Vw.pick 6 rfl hc2) | exact (Vw.pick 7 rfl hc2) | exact (Vw.pick 8 rfl hc2) | exact (Vw.pick 0 rfl j1) | exact (Vw.pick 1 rfl j1) | exact (Vw.pick 2 rfl j1) | exact (Vw.pick 3 rfl j1) | exact Vw.pick 0 rfl Vw.row | exact Vw.pick 1 rfl Vw.row | exact Vw.pick 2 rfl Vw.row | exact Vw.pick 3 rfl Vw.row | exact Vw.pick 4 rfl Vw.row | exact Vw.pick 5 rfl Vw.row | exact Vw.pick 6 rfl Vw.row | exact Vw.pick 7 rfl Vw.row | exact Vw.pick 8 rfl Vw.row | exact Vw.nil _ | exact Vw.empty _ _))) rfl ?_
  rintro _ H' ⟨_, ⟨p27, n27, rfl, rfl⟩, hH⟩
  simp only [List.cons_append, List.nil_append, List.eraseIdx_cons_zero, List.eraseIdx_cons_succ, List.set_cons_zero, List.set_cons_succ] at hH
  subst hH
  have hxl := encB_len (axOf (shortQ q).k) id (shortQ_small q)
  generalize encB (axOf (shortQ q).k) id (shortQ q) = x at *
  generalize encE (axOf (shortQ q).k) (shortQ q) = e1 at *
  refine ops_ro' rfl (ro_move rfl) rfl ?_
  refine ops_ro' rfl (ro_extract rfl rfl) rfl ?_
  refine ops_ro' rfl (ro_extract rfl rfl) rfl ?_
  refine ops_ro' rfl (ro_assign rfl) rfl ?_
  refine ops_ro' rfl (ro_assign rfl) rfl ?_
  refine ops_nil ?_
  refine Then_normal ?_
  refine wp_seq' ?_
  refine wp_region' ?_
  refine ops_ro' rfl (ro_move rfl) rfl ?_
  refine ops_ro' rfl (ro_loadA ag66 rfl (RdN.of_pick 2 rfl rdn_all) rfl) rfl ?_
  refine ops_eff' rfl (eff_call Try.call35 rfl rfl (by repeat (first | exact Split.nil _ | apply Split.cons 0 rfl | apply Split.cons 1 rfl | apply Split.cons 2 rfl | apply Split.cons 3 rfl | apply Split.cons 4 rfl | apply Split.cons 5 rfl | apply Split.cons 6 rfl | apply Split.cons 7 rfl | apply Split.cons 8 rfl | apply Split.cons 9 rfl | apply Split.cons 10 rfl | apply Split.cons 11 rfl)) (short_spec V c ep en np nn hk hkc)) rfl ?_
  rintro _ H' ⟨_, ⟨ep2, en2, np2, nn2, rfl, hc2, rfl⟩, hH⟩
  simp only [List.cons_append, List.nil_append, List.eraseIdx_cons_zero, List.eraseIdx_cons_succ, List.set_cons_zero, List.set_cons_succ] at hH
  subst hH
  refine ops_eff' rfl (eff_callM (Pre := []) Try.call34 rfl rfl (Split.nil _) (r17EncP_spec _ id hid (shortP c) ep2 en2 np2 nn2 (shortP_ok hk (by first | exact (Vw.pick 0 rfl hq2) | exact (Vw.pick 1 rfl hq2) | exact (Vw.pick 2 rfl hq2) | exact (Vw.pick 3 rfl hq2) | exact (Vw.pick 4 rfl hq2) | exact (Vw.pick 5 rfl hq2) | exact (Vw.pick 6 rfl hq2) | exact (Vw.pick 7 rfl hq2) | exact (Vw.pick 8 rfl hq2) | exact (Vw.pick 0 rfl hc2) | exact (Vw.pick 1 rfl hc2) | exact (Vw.pick 2 rfl hc2) | exact (Vw.pick 3 rfl hc2) | exact (Vw.pick 4 rfl hc2) | exact (Vw.pick 5 rfl hc2) | exact (Vw.pick 6 rfl hc2) | exact (Vw.pick 7 rfl hc2) | exact (Vw.pick 8 rfl hc2) | exact (Vw.pick 0 rfl j1) | exact (Vw.pick 1 rfl j1) | exact (Vw.pick 2 rfl j1) | exact (Vw.pick 3 rfl j1) | exact Vw.pick 0 rfl Vw.row | exact Vw.pick 1 rfl Vw.row | exact Vw.pick 2 rfl Vw.row | exact Vw.pick 3 rfl Vw.row | exact Vw.pick 4 rfl Vw.row | exact Vw.pick 5 rfl Vw.row | exact Vw.pick 6 rfl Vw.row | exact Vw.pick 7 rfl Vw.row | exact Vw.pick 8 rfl Vw.row | exact Vw.nil _ | exact Vw.empty _ _) (by first | exact (Vw.pick 0 rfl hq2) | exact (Vw.pick 1 rfl hq2) | exact (Vw.pick 2 rfl hq2) | exact (Vw.pick 3 rfl hq2) | exact (Vw.pick 4 rfl hq2) | exact (Vw.pick 5 rfl hq2) | exact (Vw.pick 6 rfl hq2) | exact (Vw.pick 7 rfl hq2) | exact (Vw.pick 8 rfl hq2) | exact (Vw.pick 0 rfl hc2) | exact (Vw.pick 1 rfl hc2) | exact (Vw.pick 2 rfl hc2) | exact (Vw.pick 3 rfl hc2) | exact (Vw.pick 4 rfl hc2) | exact (Vw.pick 5 rfl hc2) | exact (Vw.pick 6 rfl hc2) | exact (Vw.pick 7 rfl hc2) | exact (Vw.pick 8 rfl hc2) | exact (Vw.pick 0 rfl j1) | exact (Vw.pick 1 rfl j1) | exact (Vw.pick 2 rfl j1) | exact (Vw.pick 3 rfl j1) | exact Vw.pick 0 rfl Vw.row | exact Vw.pick 1 rfl Vw.row | exact Vw.pick 2 rfl Vw.row | exact Vw.pick 3 rfl Vw.row | exact Vw.pick 4 rfl Vw.row | exact Vw.pick 5 rfl Vw.row | exact Vw.pick 6 rfl Vw.row | exact Vw.pick 7 rfl Vw.row | exact Vw.pick 8 rfl Vw.row | exact Vw.nil _ | exact Vw.empty _ _)) (shortP_small c).1 (shortP_small c).2.1 (shortP_small c).2.2.1 (shortP_small c).2.2.2)) rfl ?_
  rintro _ H' ⟨_, ⟨p34, n34, rfl, rfl⟩, hH⟩
  simp only [List.cons_append, List.nil_append, List.eraseIdx_cons_zero, List.eraseIdx_cons_succ, List.set_cons_zero, List.set_cons_succ] at hH
  subst hH
  have hyl := encP_len id c
  generalize encP id (shortP c) = y at *
  generalize fineE (shortP c) = e2 at *
  refine ops_ro' rfl (ro_move rfl) rfl ?_
  refine ops_ro' rfl (ro_extract rfl rfl) rfl ?_
  refine ops_ro' rfl (ro_extract rfl rfl) rfl ?_
  refine ops_ro' rfl (ro_assign rfl) rfl ?_
  refine ops_ro' rfl (ro_assign rfl) rfl ?_
  refine ops_nil ?_
  refine Then_normal ?_
  refine wp_seq' ?_
  refine wp_seq' ?_
  refine wp_region' ?_
  refine ops_ro' rfl (ro_move rfl) rfl ?_
  refine ops_eff' rfl (eff_call Try.call22 rfl rfl (by repeat (first | exact Split.nil _ | apply Split.cons 0 rfl | apply Split.cons 1 rfl | apply Split.cons 2 rfl | apply Split.cons 3 rfl | apply Split.cons 4 rfl | apply Split.cons 5 rfl | apply Split.cons 6 rfl | apply Split.cons 7 rfl | apply Split.cons 8 rfl | apply Split.cons 9 rfl | apply Split.cons 10 rfl | apply Split.cons 11 rfl)) (kCut V bp bc b 400 hb hbc)) rfl ?_
  rintro _ H' ⟨_, ⟨_, ⟨p38, c38, rfl, hz0, hcz, rfl⟩, rfl⟩, hH⟩
  simp only [List.cons_append, List.nil_append, List.eraseIdx_cons_zero, List.eraseIdx_cons_succ, List.set_cons_zero, List.set_cons_succ] at hH
  subst hH
  have hzl : (b.take 400).length ≤ 400 := by rw [List.length_take]; omega
  generalize b.take 400 = z0 at *
  refine ops_ro' rfl (ro_move rfl) rfl ?_
  refine ops_ro' rfl (ro_move rfl) rfl ?_
  refine ops_eff' rfl (eff_lit sl36 rfl (sbld (cs := flat Sq.cs [⟨p38, c38, z0⟩, ⟨p27, n27, x⟩, ⟨p34, n34, y⟩]) [(.slice none 0 0), (.slice none 0 0), (.slice none 0 0)] sl36 (by decide) (by kernel_rfl) rfl) rfl (by decide)) rfl ?_
  rintro _ _ ⟨b41, rfl, rfl⟩
  refine ops_know (p := x.length ≤ n27) (fun w F s => by first | exact row_caps 0 rfl s | exact row_caps 1 rfl s | exact row_caps 2 rfl s | exact row_caps 3 rfl s | exact row_caps 4 rfl s | exact row_caps 5 rfl s) ?_
  intro k1
  refine ops_know (p := y.length ≤ n34) (fun w F s => by first | exact row_caps 0 rfl s | exact row_caps 1 rfl s | exact row_caps 2 rfl s | exact row_caps 3 rfl s | exact row_caps 4 rfl s | exact row_caps 5 rfl s) ?_
  intro k2
  refine ops_packS fun U eU => ?_
  obtain ⟨zs, hzs⟩ : ∃ zs : List (Slv UInt8), zs = [⟨p38, c38, z0⟩, ⟨p27, n27, x⟩, ⟨p34, n34, y⟩] := ⟨_, rfl⟩
  have hln : zs.length = 3 := by rw [hzs]; rfl
  have hP : Vw U (.slice (some ⟨b41, 0, none⟩) 3 3) 3 (flat Sq.cs zs) := by
    subst eU
    rw [hzs]
    exact Vw.pick 0 rfl Vw.row
  have hall : Zs U zs := by
    subst eU
    rw [hzs]
    exact zs_all ⟨(by first | exact Vw.pick 0 rfl hz0 | exact Vw.pick 1 rfl hz0 | exact Vw.pick 2 rfl hz0 | exact Vw.pick 3 rfl hz0 | exact Vw.pick 4 rfl hz0 | exact Vw.pick 5 rfl hz0 | exact Vw.pick 6 rfl hz0 | exact Vw.pick 7 rfl hz0 | exact Vw.pick 8 rfl hz0), hcz, by show z0.length ≤ 1000000; omega⟩ ⟨(by first | exact Vw.pick 0 rfl Vw.row | exact Vw.pick 1 rfl Vw.row | exact Vw.pick 2 rfl Vw.row | exact Vw.pick 3 rfl Vw.row | exact Vw.pick 4 rfl Vw.row | exact Vw.pick 5 rfl Vw.row), k1, by show x.length ≤ 1000000; omega⟩ ⟨(by first | exact Vw.pick 0 rfl Vw.row | exact Vw.pick 1 rfl Vw.row | exact Vw.pick 2 rfl Vw.row | exact Vw.pick 3 rfl Vw.row | exact Vw.pick 4 rfl Vw.row | exact Vw.pick 5 rfl Vw.row), k2, by show y.length ≤ 1000000; omega⟩
  have hS : SubH [U] [V] := by
    subst eU
    exact sub_of (by repeat (first | exact SubH.nil _ | refine SubH.cons 0 rfl ?_ | refine SubH.cons 1 rfl ?_ | refine SubH.cons 2 rfl ?_ | refine SubH.cons 3 rfl ?_ | refine SubH.cons 4 rfl ?_ | refine SubH.cons 5 rfl ?_ | refine SubH.cons 6 rfl ?_ | refine SubH.cons 7 rfl ?_ | refine SubH.cons 8 rfl ?_ | refine SubH.cons 9 rfl ?_ | refine SubH.cons 10 rfl ?_ | refine SubH.cons 11 rfl ?_ | refine SubH.cons 12 rfl ?_ | refine SubH.cons 13 rfl ?_ | refine SubH.rown ?_))
  clear eU hzs
  refine ops_ro' rfl (ro_sliceLen Try.underlying36 rfl) rfl ?_
  refine ops_ro' rfl (ro_move rfl) rfl ?_
  refine ops_nil ?_
  refine Then_normal ?_
  refine wp_block' ?_
  refine wp_loopK 4 (fun m Δ LL => ∃ (i : Nat), (i + m = 3) ∧ Δ = [(43, .int .i64 (i : Nat))] ∧ LL = [U]) (m := 3) (Has.cons (k := 4) rfl (Has.cons (k := 5) rfl (Has.cons (k := 6) rfl (Has.cons (k := 41) rfl (Has.cons (k := 42) rfl (Has.nil _)))))) (kept ⟨0, by omega, rfl, rfl⟩ (by repeat (first | exact Has.nil _ | refine Has.cons rfl ?_)) (by repeat (first | exact Has.nil _ | refine Has.cons rfl ?_)) (by repeat (first | exact SubH.nil _ | refine SubH.cons 0 rfl ?_ | refine SubH.cons 1 rfl ?_ | refine SubH.cons 2 rfl ?_ | refine SubH.cons 3 rfl ?_ | refine SubH.cons 4 rfl ?_ | refine SubH.cons 5 rfl ?_ | refine SubH.cons 6 rfl ?_ | refine SubH.cons 7 rfl ?_ | refine SubH.cons 8 rfl ?_ | refine SubH.cons 9 rfl ?_ | refine SubH.cons 10 rfl ?_ | refine SubH.cons 11 rfl ?_ | refine SubH.cons 12 rfl ?_ | refine SubH.cons 13 rfl ?_ | refine SubH.rown ?_))) ?_
  rintro m Δ LL ⟨i, hm, rfl, rfl⟩
  simp only [List.cons_append, List.nil_append]
  refine wp_seq' ?_
  refine wp_region' ?_
  refine ops_ro' rfl (ro_lss rfl rfl rfl) rfl ?_
  refine ops_nil ?_
  refine Then_normal ?_
  refine wp_seq' ?_
  refine wp_cond' rfl (fun hc44 => ?_) (fun hc44 => ?_)
  · replace hc44 := of_decide_eq_true hc44
    refine wp_skip' ?_
    refine Then_normal ?_
    refine wp_seq' ?_
    refine wp_block' ?_
    refine wp_seq' ?_
    have hi : i < zs.length := by omega
    refine wp_region' ?_
    refine ops_ro' rfl (ro_indexSlice sl36 rfl rfl rfl (by omega)) rfl ?_
    refine ops_ro' rfl (ro_load sc32 rfl (Rd.pick 0 rfl (Rd.elem (j := 0) (vw_rdn hP) Sq.len (List.getElem?_eq_getElem hi) rfl))) rfl ?_
    obtain ⟨j1, j2, j3⟩ := hall _ (List.getElem_mem hi)
    generalize zs[i] = zz at *
    obtain ⟨zp, zc, z⟩ := zz
    simp only at j1 j2 j3
    refine ops_ro' rfl (ro_assign rfl) rfl ?_
    refine ops_nil ?_
    refine Then_normal ?_
    refine wp_seq' ?_
    refine wp_seq' ?_
    refine wp_region' ?_
    refine ops_ro' rfl (ro_move rfl) rfl ?_
    refine ops_eff' rfl (eff_callM (Pre := []) Try.call36 rfl rfl (Split.nil _) (request_spec _ zp zc z (by first | exact Vw.pick 0 rfl j1 | exact Vw.pick 1 rfl j1) j2 (by omega))) rfl ?_
    rintro _ H' ⟨_, ⟨rfl, rfl⟩, hH⟩
    simp only [List.cons_append, List.nil_append, List.eraseIdx_cons_zero, List.eraseIdx_cons_succ, List.set_cons_zero, List.set_cons_succ] at hH
    subst hH
    refine ops_ro' rfl (ro_not rfl rfl) rfl ?_
    refine ops_ro' rfl (ro_move (v := .bool false) rfl) rfl ?_
    refine ops_ro' rfl (ro_move rfl) rfl ?_
    refine ops_eff' rfl (eff_callM (Pre := []) Try.call37 rfl rfl (Split.nil _) (reply_spec _ zp zc z (by first | exact Vw.pick 0 rfl j1 | exact Vw.pick 1 rfl j1) j2 (by omega))) rfl ?_
    rintro _ H' ⟨_, ⟨rfl, rfl⟩, hH⟩
    simp only [List.cons_append, List.nil_append, List.eraseIdx_cons_zero, List.eraseIdx_cons_succ, List.set_cons_zero, List.set_cons_succ] at hH
    subst hH
    refine ops_ro' rfl (ro_not rfl rfl) rfl ?_
    refine ops_ro' rfl (ro_pick rfl rfl) rfl ?_
    refine ops_nil ?_
    refine Then_normal ?_
    refine wp_condF rfl ?_
    refine wp_skip' ?_
    refine Then_normal ?_
    refine wp_seq' ?_
    refine wp_seq' ?_
    refine wp_region' ?_
    refine ops_ro' rfl (ro_move rfl) rfl ?_
    refine ops_ro' rfl (ro_sliceLen Try.underlying32 rfl) rfl ?_
    refine ops_ro' rfl (ro_eql rfl rfl rfl) rfl ?_
    refine ops_nil ?_
    refine Then_normal ?_
    refine wp_cond' rfl (fun hc57 => ?_) (fun hc57 => ?_)
    · replace hc57 := of_decide_eq_true hc57
      dsimp only at hc57
      refine wp_exit' ?_
      refine Then_exit ?_
      refine InBlock_here ?_
      refine Then_normal ?_
      refine wp_region' ?_
      refine ops_ro' rfl (ro_add rfl rfl (wrap_inc (by omega))) rfl ?_
      refine ops_ro' rfl (ro_move rfl) rfl ?_
      refine ops_nil ?_
      refine Then_normal ?_
      refine back (m - 1) (by omega) (kept ⟨i + 1, by omega, rfl, rfl⟩ ?_ ?_ ?_)
      · exact (by repeat (first | exact Has.nil _ | refine Has.cons rfl ?_))
      · exact (by repeat (first | exact Has.nil _ | refine Has.cons rfl ?_))
      · exact SubH.refl _
    · replace hc57 := of_decide_eq_false hc57
      dsimp only at hc57
      refine wp_skip' ?_
      refine Then_normal ?_
      refine wp_seq' ?_
      obtain ⟨k, hk0, hk1, hk2⟩ : ∃ k : Nat, (0 + at0 % (((z.length - 1 : Nat) : Int) - 0 + 1)) = (k : Int) ∧ k < z.length ∧ True := by
        have g1 := Int.emod_nonneg at0 (show (((z.length - 1 : Nat) : Int) - 0 + 1) ≠ 0 by omega)
        have g2 := Int.emod_lt_of_pos at0 (show 0 < (((z.length - 1 : Nat) : Int) - 0 + 1) by omega)
        exact ⟨(0 + at0 % (((z.length - 1 : Nat) : Int) - 0 + 1)).toNat, by omega, by omega, trivial⟩
      clear hk2
      have hk2 := hk1
      refine wp_region' ?_
      refine ops_ro' rfl (ro_move rfl) rfl ?_
      refine ops_ro' rfl (ro_move rfl) rfl ?_
      refine ops_ro' rfl (ro_sliceLen Try.underlying32 rfl) rfl ?_
      refine ops_ro' rfl (ro_sub rfl rfl (wrap_dec (by dsimp only; omega) (by dsimp only; omega))) rfl ?_
      refine ops_eff' rfl (eff_call Try.call38 rfl rfl (by repeat (first | exact Split.nil _ | apply Split.cons 0 rfl | apply Split.cons 1 rfl | apply Split.cons 2 rfl | apply Split.cons 3 rfl | apply Split.cons 4 rfl | apply Split.cons 5 rfl | apply Split.cons 6 rfl | apply Split.cons 7 rfl | apply Split.cons 8 rfl | apply Split.cons 9 rfl | apply Split.cons 10 rfl | apply Split.cons 11 rfl)) (within_tw at0 0 ((z.length - 1 : Nat) : Int) k (by omega) (by omega) (by omega) hk0)) rfl ?_
      rintro _ H' ⟨_, ⟨rfl, rfl⟩, hH⟩
      simp only [List.cons_append, List.nil_append, List.eraseIdx_cons_zero, List.eraseIdx_cons_succ, List.set_cons_zero, List.set_cons_succ] at hH
      subst hH
      refine ops_ro' rfl (ro_assign rfl) rfl ?_
      refine ops_nil ?_
      refine Then_normal ?_
      refine wp_seq' ?_
      have hv0 : ∀ W : HProp, True := fun _ => trivial
      refine wp_region' ?_
      refine ops_eff' rfl (eff_lit sl32 rfl (sbld (cs := cel []) [] sl32 (by decide) (by kernel_rfl) rfl) rfl (by decide)) rfl ?_
      rintro _ _ ⟨b63, rfl, rfl⟩
      refine ops_ro' rfl (ro_move rfl) rfl ?_
      refine ops_eff' rfl (eff_appB (l := []) (l2 := z) 0 sl32 (.inl ⟨5, Try.underlying32⟩) rfl rfl rfl (by first | exact Src.strl | exact Src.celv (Vw.pick 0 rfl hq2) | exact Src.celv (Vw.pick 1 rfl hq2) | exact Src.celv (Vw.pick 2 rfl hq2) | exact Src.celv (Vw.pick 3 rfl hq2) | exact Src.celv (Vw.pick 4 rfl hq2) | exact Src.celv (Vw.pick 5 rfl hq2) | exact Src.celv (Vw.pick 6 rfl hq2) | exact Src.celv (Vw.pick 7 rfl hq2) | exact Src.celv (Vw.pick 8 rfl hq2) | exact Src.celv (Vw.pick 0 rfl hc2) | exact Src.celv (Vw.pick 1 rfl hc2) | exact Src.celv (Vw.pick 2 rfl hc2) | exact Src.celv (Vw.pick 3 rfl hc2) | exact Src.celv (Vw.pick 4 rfl hc2) | exact Src.celv (Vw.pick 5 rfl hc2) | exact Src.celv (Vw.pick 6 rfl hc2) | exact Src.celv (Vw.pick 7 rfl hc2) | exact Src.celv (Vw.pick 8 rfl hc2) | exact Src.celv (Vw.pick 0 rfl j1) | exact Src.celv (Vw.pick 1 rfl j1) | exact Src.celv (Vw.pick 2 rfl j1) | exact Src.celv (Vw.pick 3 rfl j1) | exact Src.celv (Vw.pick 0 rfl Vw.row) | exact Src.celv (Vw.pick 1 rfl Vw.row) | exact Src.celv (Vw.pick 2 rfl Vw.row) | exact Src.celv (Vw.pick 3 rfl Vw.row) | exact Src.celv (Vw.pick 4 rfl Vw.row) | exact Src.celv (Vw.pick 5 rfl Vw.row) | exact Src.celv (Vw.pick 6 rfl Vw.row) | exact Src.celv (Vw.pick 7 rfl Vw.row) | exact Src.celv (Vw.pick 8 rfl Vw.row)) (by simp only [List.length_nil] at *; omega)) rfl ?_
      rintro _ _ ⟨p65, c65, rfl, hn65, rfl⟩
      simp only [List.set_cons_zero, List.set_cons_succ, List.nil_append]
      refine ops_ro' rfl (ro_assign rfl) rfl ?_
      refine ops_nil ?_
      refine Then_normal ?_
      refine wp_seq' ?_
      have hzz := UInt8.toNat_lt (z[k] ^^^ tb)
      refine wp_know (fun w F s => row_ptr' 0 rfl s (by omega)) ?_
      rintro ⟨b65, hb65⟩
      subst hb65
      refine wp_region' ?_
      refine ops_ro' rfl (ro_move rfl) rfl ?_
      refine ops_ro' rfl (ro_move rfl) rfl ?_
      refine ops_ro' rfl (ro_move rfl) rfl ?_
      refine ops_ro' rfl (ro_move rfl) rfl ?_
      refine ops_ro' rfl (ro_indexSlice sl32 rfl rfl rfl (by omega)) rfl ?_
      refine ops_ro' rfl (ro_load sc5 rfl (Rd.pick 0 rfl (Rd.row (by rw [Nat.zero_add, Nat.mul_one]; exact cel_get hk2)))) rfl ?_
      refine ops_ro' rfl (ro_move rfl) rfl ?_
      refine ops_ro' rfl (ro_xor rfl rfl (xor8 z[k] tb)) rfl ?_
      refine ops_ro' rfl (ro_indexSlice sl32 rfl rfl rfl (by omega)) rfl ?_
      refine ops_eff0 rfl (eff_storeB 0 sc5 rfl rfl (by omega) (by omega) rfl rfl (by omega)) rfl ?_
      rintro _ _ rfl
      simp only [List.set_cons_zero, List.set_cons_succ]
      refine ops_know (fun w F s => row_caps 0 rfl s) ?_
      intro hcw
      generalize hw : z.set k (UInt8.ofNat (((z[k] ^^^ tb).toNat : Nat) : Int).toNat) = w
      have hwl : w.length = z.length := by rw [← hw, List.length_set]
      refine ops_nil ?_
      refine Then_normal ?_
      refine wp_cutK 1014 (fun Δ LL => ∃ (n2 : Nat) (y2 : List UInt8), (n2 ≤ c65 ∧ n2 ≤ 1000000 ∧ n2 = y2.length) ∧ Δ = [(22, .slice (some ⟨b65, 0, none⟩) n2 c65)] ∧ LL = [row 5 1 (.slice (some ⟨b65, 0, none⟩) n2 c65) n2 (cel y2), U]) (Has.cons (k := 4) rfl (Has.cons (k := 5) rfl (Has.cons (k := 6) rfl (Has.cons (k := 41) rfl (Has.cons (k := 42) rfl (Has.cons (k := 43) rfl (Has.nil _))))))) ?_ ?_
      · refine wp_seq' ?_
        refine wp_region' ?_
        refine ops_ro' rfl (ro_move rfl) rfl ?_
        refine ops_nil ?_
        refine Then_normal ?_
        refine wp_cond' rfl (fun hc75 => ?_) (fun hc75 => ?_)
        · skip
          refine wp_region' ?_
          refine ops_ro' rfl (ro_move rfl) rfl ?_
          refine ops_ro' rfl (ro_move rfl) rfl ?_
          refine ops_eff' rfl (eff_trunc (b := k) 0 sl32 rfl rfl (bnd_of rfl rfl) (by omega)) rfl ?_
          rintro _ _ ⟨rfl, rfl⟩
          simp only [List.set_cons_zero, List.set_cons_succ]
          rw [show (cel w).take (k * 1) = cel (w.take k) from by simp [cel, List.map_take]]
          refine ops_ro' rfl (ro_assign rfl) rfl ?_
          refine ops_nil ?_
          refine Then_normal ?_
          refine over_cut (kept ⟨k, w.take k, ⟨by omega, by omega, by rw [List.length_take]; omega⟩, rfl, rfl⟩ ?_ ?_ ?_)
          · exact (by repeat (first | exact Has.nil _ | refine Has.cons rfl ?_))
          · exact (by repeat (first | exact Has.nil _ | refine Has.cons rfl ?_))
          · exact SubH.refl _
        · skip
          refine wp_skip' ?_
          refine Then_normal ?_
          refine over_cut (kept ⟨z.length, w, ⟨hcw, by omega, hwl.symm⟩, rfl, rfl⟩ ?_ ?_ ?_)
          · exact (by repeat (first | exact Has.nil _ | refine Has.cons rfl ?_))
          · exact (by repeat (first | exact Has.nil _ | refine Has.cons rfl ?_))
          · exact SubH.refl _
      · rintro Δ LL ⟨n2, y2, ⟨g2, g3, rfl⟩, rfl, rfl⟩
        simp only [List.cons_append, List.nil_append]
        refine wp_seq' ?_
        refine wp_region' ?_
        refine ops_ro' rfl (ro_move rfl) rfl ?_
        refine ops_eff' rfl (eff_callM (Pre := []) Try.call36 rfl rfl (Split.nil _) (request_spec _ _ c65 y2 (Vw.pick 0 rfl Vw.row) g2 (by omega))) rfl ?_
        rintro _ H' ⟨_, ⟨rfl, rfl⟩, hH⟩
        simp only [List.cons_append, List.nil_append, List.eraseIdx_cons_zero, List.eraseIdx_cons_succ, List.set_cons_zero, List.set_cons_succ] at hH
        subst hH
        refine ops_ro' rfl (ro_not rfl rfl) rfl ?_
        refine ops_ro' rfl (ro_move (v := .bool false) rfl) rfl ?_
        refine ops_ro' rfl (ro_move rfl) rfl ?_
        refine ops_eff' rfl (eff_callM (Pre := []) Try.call37 rfl rfl (Split.nil _) (reply_spec _ _ c65 y2 (Vw.pick 0 rfl Vw.row) g2 (by omega))) rfl ?_
        rintro _ H' ⟨_, ⟨rfl, rfl⟩, hH⟩
        simp only [List.cons_append, List.nil_append, List.eraseIdx_cons_zero, List.eraseIdx_cons_succ, List.set_cons_zero, List.set_cons_succ] at hH
        subst hH
        refine ops_ro' rfl (ro_not rfl rfl) rfl ?_
        refine ops_ro' rfl (ro_pick rfl rfl) rfl ?_
        refine ops_nil ?_
        refine Then_normal ?_
        refine wp_condF rfl ?_
        refine wp_skip' ?_
        refine InBlock_normal ?_
        refine Then_normal ?_
        refine wp_region' ?_
        refine ops_ro' rfl (ro_add rfl rfl (wrap_inc (by omega))) rfl ?_
        refine ops_ro' rfl (ro_move rfl) rfl ?_
        refine ops_nil ?_
        refine Then_normal ?_
        refine back (m - 1) (by omega) (kept ⟨i + 1, by omega, rfl, rfl⟩ ?_ ?_ ?_)
        · exact (by repeat (first | exact Has.nil _ | refine Has.cons rfl ?_))
        · exact (by repeat (first | exact Has.nil _ | refine Has.cons rfl ?_))
        · exact (SubH.cons 1 rfl (SubH.nil _))
  · replace hc44 := of_decide_eq_false hc44
    refine wp_exit' ?_
    refine Then_exit ?_
    refine Then_exit ?_
    refine InBlock_here ?_
    refine Then_normal ?_
    refine wp_seq' ?_
    refine wp_region' ?_
    refine ops_eff' rfl (eff_call Try.call30 rfl rfl (by repeat (first | exact Split.nil _ | apply Split.cons 0 rfl | apply Split.cons 1 rfl | apply Split.cons 2 rfl | apply Split.cons 3 rfl | apply Split.cons 4 rfl | apply Split.cons 5 rfl | apply Split.cons 6 rfl | apply Split.cons 7 rfl | apply Split.cons 8 rfl | apply Split.cons 9 rfl | apply Split.cons 10 rfl | apply Split.cons 11 rfl)) (known17_spec U)) rfl ?_
    rintro _ H' ⟨_, ⟨rfl, rfl⟩, hH⟩
    simp only [List.cons_append, List.nil_append, List.eraseIdx_cons_zero, List.eraseIdx_cons_succ, List.set_cons_zero, List.set_cons_succ] at hH
    subst hH
    refine ops_ro' rfl (ro_assign rfl) rfl ?_
    refine ops_nil ?_
    refine Then_normal ?_
    refine wp_ret' ?_
    refine doneS_pre2 (SubH.trans (show SubH _ [U] from (by repeat (first | exact SubH.nil _ | refine SubH.cons 0 rfl ?_ | refine SubH.cons 1 rfl ?_ | refine SubH.cons 2 rfl ?_ | refine SubH.cons 3 rfl ?_ | refine SubH.cons 4 rfl ?_ | refine SubH.cons 5 rfl ?_ | refine SubH.cons 6 rfl ?_ | refine SubH.cons 7 rfl ?_ | refine SubH.cons 8 rfl ?_ | refine SubH.cons 9 rfl ?_ | refine SubH.cons 10 rfl ?_ | refine SubH.cons 11 rfl ?_ | refine SubH.cons 12 rfl ?_ | refine SubH.cons 13 rfl ?_ | refine SubH.rown ?_))) hS) ?_
    refine' doneS_ret (res1 rfl rfl) ?_ ?_
    rotate_left 1
    exact ⟨rfl, rfl⟩
    exact SubH.refl _

end Go.Proofs.Ytigaolglnnjnmaa
