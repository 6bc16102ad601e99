/-
  TreeLoads.
-/
import Derived.Test.YtbbmhppkhcodfaaTrV
import Derived.Test.YtbbmhppkhcodfaaOpenTr
import Derived.Test.YtbbmhppkhcodfaaTrB
import Derived.Test.YtbbmhppkhcodfaaBook
import Derived.Test.YtbbmhppkhcodfaaSxFork
namespace Go.Proofs.Ytbbmhppkhcodfaa
open Go.Sx
set_option linter.unusedVariables false
set_option linter.unusedSimpArgs false
set_option maxRecDepth 100000
set_option maxHeartbeats 4000000

theorem make_nx {t : Tr} {r : Nd} {p : List (List UInt8)} {dir : Bool} {t' : Tr} {r' : Nd} {i e : Int} (hR : MakeR t r p dir t' r' i e) : t'.next ≤ t.next + 1 ∧ t'.tb = t.tb := by
  rcases hR with ⟨rfl, _⟩ | ⟨_, x, hh, _, _, _, b, kp, kc, _, rfl, _⟩
  · exact ⟨by omega, rfl⟩
  · exact ⟨Nat.le_refl _, rfl⟩
theorem within_tw (a lo hi : Int) (k : Nat) (h0 : 0 ≤ lo) (h1 : lo ≤ hi) (h2 : hi ≤ 4611686018427387904) (h : lo + a % (hi - lo + 1) = (k : Int)) : Tri Try.prog 13 [.int .i64 a, .int .i64 lo, .int .i64 hi] [] (fun v H' => v = .int .i64 (k : Int) ∧ H' = []) := by
  rw [← h]
  exact within_spec a lo hi h0 h1 h2
theorem ops_packS {n : Nat} {ops : Array Oper} {l : List Oper} {Γ : Env} {H : List HProp} {Q : Post} (h : ∀ V2, V2 = St H → Ops Try.prog n ops l Γ [V2] Q) : Ops Try.prog n ops l Γ H Q :=
  ops_sub' (fun w F s => by rw [St_cons, St_nil, star_emp]; exact s) (h (St H) rfl)
theorem sub_of {H L : List HProp} (h : SubH H L) : SubH [St H] L := fun w F s => h w F (by rw [St_cons, St_nil, star_emp] at s; exact s)
theorem doneS_pre2 {fn : Func} {n : Nat} {Ψ : Value → List HProp → Prop} {Γ : Env} {H H2 : List HProp} (hs : SubH H H2) (h : DoneS Try.prog fn n Ψ .ret Γ H2) : DoneS Try.prog fn n Ψ .ret Γ H := by
  obtain ⟨v, L, h1, h2, h3⟩ := h
  exact ⟨v, L, fun a w F f s => h1 a w F f (hs w F s), h2, hs.trans h3⟩
def Zs (V : HProp) (xs : List (Slv UInt8)) : Prop := ∀ x ∈ xs, Vw V x.v x.l.length (cel x.l) ∧ x.l.length ≤ 2000000
theorem zs_two {V : HProp} {x y : Slv UInt8} (h1 : Vw V x.v x.l.length (cel x.l) ∧ x.l.length ≤ 2000000) (h2 : Vw V y.v y.l.length (cel y.l) ∧ y.l.length ≤ 2000000) : Zs V [x, y] := fun r hr => by
  simp only [List.mem_cons, List.not_mem_nil, or_false] at hr
  rcases hr with rfl | rfl
  · exact h1
  · exact h2
theorem isNone_map {α β : Type} {f : α → β} {o : Option α} : (o.map f).isNone = o.isNone := by cases o <;> rfl
theorem isSome_map {α β : Type} {f : α → β} {o : Option α} : (o.map f).isSome = o.isSome := by cases o <;> rfl
theorem treeloads_run (V : HProp) (bp : Option Addr) (bc : Nat) (b : List UInt8) (hb : Vw V (.slice bp b.length bc) b.length (cel b)) (hbc : b.length ≤ bc) (q : Option Addr) (cq : Nat) (l : List Av) (hL : Vw V (.slice q l.length cq) l.length (flat Av.cs l)) (hl : l.length ≤ 9223372036854775807) (hA : ∀ x ∈ l, x.Ok V) (at0 : Int) (ha : -9223372036854775808 ≤ at0 ∧ at0 ≤ 9223372036854775807) (tt : UInt8) :
    Tri Try.prog 6 [.slice bp b.length bc, .slice q l.length cq, .int .i64 at0, byteV tt] [V] (fun v H' => v = .bool true ∧ H' = [V]) := by
  refine tri_of_wpS Try.func6 rfl Try.ntmps6 (by simp) ?_
  refine wp_seq' ?_
  refine wp_region' ?_
  refine ops_ro' rfl (ro_assign rfl) rfl ?_
  refine ops_nil ?_
  refine Then_normal ?_
  refine wp_seq' ?_
  refine wp_region' ?_
  refine ops_eff' rfl (eff_call Try.call10 rfl rfl (by repeat (first | exact Split.nil _ | apply Split.cons 0 rfl | apply Split.cons 1 rfl | apply Split.cons 2 rfl | apply Split.cons 3 rfl | apply Split.cons 4 rfl | apply Split.cons 5 rfl | apply Split.cons 6 rfl | apply Split.cons 7 rfl | apply Split.cons 8 rfl | apply Split.cons 9 rfl | apply Split.cons 10 rfl | apply Split.cons 11 rfl)) (new_spec)) rfl ?_
  rintro _ H' ⟨_, ⟨t0, r0, rfl, hn1, hn2, hW0, rfl⟩, hH⟩
  simp only [List.cons_append, List.nil_append, List.eraseIdx_cons_zero, List.eraseIdx_cons_succ, List.set_cons_zero, List.set_cons_succ] at hH
  subst hH
  obtain ⟨tb, htb0⟩ : ∃ tb, tb = t0.tb := ⟨_, rfl⟩
  rw [show Tr.v t0 = .pointer (some ⟨tb, 0, none⟩) from by rw [Tr.v, htb0]]
  refine ops_ro' rfl (ro_assign rfl) rfl ?_
  refine ops_nil ?_
  refine Then_normal ?_
  refine wp_seq' ?_
  refine wp_seq' ?_
  refine wp_region' ?_
  refine ops_ro' rfl (ro_move rfl) rfl ?_
  refine ops_ro' rfl (ro_ptrEqlNil Try.underlying24 rfl rfl rfl) rfl ?_
  refine ops_nil ?_
  refine Then_normal ?_
  refine wp_condF rfl ?_
  refine wp_skip' ?_
  refine Then_normal ?_
  refine wp_seq' ?_
  refine wp_seq' ?_
  refine wp_region' ?_
  refine ops_ro' rfl (ro_assign rfl) rfl ?_
  refine ops_nil ?_
  refine Then_normal ?_
  refine wp_block' ?_
  refine wp_loopK 5 (fun m Δ LL => ∃ (i : Nat) (t : Tr) (r : Nd), (i + m = l.length ∧ t.tb = tb ∧ t.next ≤ i + 1 ∧ i ≤ 15 ∧ Wf t r) ∧ Δ = [(10, .int .i64 (i : Nat))] ∧ LL = [tree t, V]) (m := l.length) (Has.cons (k := 0) rfl (Has.cons (k := 1) rfl (Has.cons (k := 2) rfl (Has.cons (k := 3) rfl (Has.cons (k := 9) rfl (Has.nil _)))))) (kept ⟨0, t0, r0, ⟨by omega, htb0.symm, by omega, by omega, hW0⟩, rfl, rfl⟩ (by repeat (first | exact Has.nil _ | refine Has.cons rfl ?_)) (by repeat (first | exact Has.nil _ | refine Has.cons rfl ?_)) (by repeat (first | exact SubH.nil _ | refine SubH.cons 0 rfl ?_ | refine SubH.cons 1 rfl ?_ | refine SubH.cons 2 rfl ?_ | refine SubH.cons 3 rfl ?_ | refine SubH.cons 4 rfl ?_ | refine SubH.cons 5 rfl ?_ | refine SubH.cons 6 rfl ?_ | refine SubH.cons 7 rfl ?_ | refine SubH.cons 8 rfl ?_ | refine SubH.cons 9 rfl ?_ | refine SubH.cons 10 rfl ?_ | refine SubH.cons 11 rfl ?_ | refine SubH.cons 12 rfl ?_ | refine SubH.cons 13 rfl ?_ | refine SubH.rown ?_))) ?_
  rintro m Δ LL ⟨i, t, r, ⟨hm, htb, hnx, hi15, hW⟩, rfl, rfl⟩
  simp only [List.cons_append, List.nil_append]
  refine wp_seq' ?_
  refine wp_seq' ?_
  refine wp_region' ?_
  refine ops_ro' rfl (ro_move rfl) rfl ?_
  refine ops_ro' rfl (ro_move rfl) rfl ?_
  refine ops_ro' rfl (ro_sliceLen Try.underlying45 rfl) rfl ?_
  refine ops_ro' rfl (ro_lss rfl rfl rfl) rfl ?_
  refine ops_split rfl rfl rfl (fun hg25 => ?_) (fun hg25 => ?_)
  · replace hg25 := of_decide_eq_true hg25
    have hi : i < l.length := by omega
    refine ops_ro' rfl (ro_move rfl) rfl ?_
    refine ops_ro' rfl (ro_lss rfl rfl rfl) rfl ?_
    refine ops_ro' rfl (ro_pick rfl rfl) rfl ?_
    refine ops_nil ?_
    refine Then_normal ?_
    refine wp_cond' rfl (fun hc28 => ?_) (fun hc28 => ?_)
    · replace hc28 := of_decide_eq_true hc28
      refine wp_skip' ?_
      refine Then_normal ?_
      refine wp_seq' ?_
      refine wp_block' ?_
      refine wp_cutK 1008 (fun Δ LL => ∃ (b5 : Nat) (q5 : Ap) (x : Av), (x.Ok V ∧ Vw V (.slice q5.bp (shortA x.c).b.length q5.bc) (shortA x.c).b.length (cel (shortA x.c).b) ∧ (shortA x.c).b.length ≤ q5.bc) ∧ Δ = [(11, .pointer (some ⟨b5, 0, none⟩))] ∧ LL = [own b5 (.cells ((shortA x.c).cs q5).toArray 47 (0, 0)), row 9 1 (.slice q5.pp ((shortA x.c).p).length q5.pc) ((shortA x.c).p).length (txs ((shortA x.c).p)), tree t, V]) (Has.cons (k := 0) rfl (Has.cons (k := 1) rfl (Has.cons (k := 2) rfl (Has.cons (k := 3) rfl (Has.cons (k := 9) rfl (Has.cons (k := 10) rfl (Has.nil _))))))) ?_ ?_
      · have hi : i < l.length := by omega
        obtain ⟨x, hx⟩ : ∃ x, l[i]? = some x := ⟨_, List.getElem?_eq_getElem hi⟩
        have hok := hA x (List.mem_of_getElem? hx)
        refine wp_know (fun w F s => vw_ptr (Vw.pick (H := [_, V]) 1 rfl hL) s (by omega)) ?_
        rintro ⟨b1, o1, rfl⟩
        refine wp_region' ?_
        refine ops_ro' rfl (ro_move rfl) rfl ?_
        refine ops_ro' rfl (ro_move rfl) rfl ?_
        refine ops_ro' rfl (ro_indexSlice sl45 rfl rfl rfl (by omega)) rfl ?_
        refine ops_ro' rfl (ro_loadA ag47 rfl (RdN.of_pick 1 rfl (RdN.elem (vw_rdn hL) Av.len hx)) rfl) rfl ?_
        refine ops_eff' rfl (eff_call Try.call19 rfl rfl (by repeat (first | exact Split.nil _ | apply Split.cons 0 rfl | apply Split.cons 1 rfl | apply Split.cons 2 rfl | apply Split.cons 3 rfl | apply Split.cons 4 rfl | apply Split.cons 5 rfl | apply Split.cons 6 rfl | apply Split.cons 7 rfl | apply Split.cons 8 rfl | apply Split.cons 9 rfl | apply Split.cons 10 rfl | apply Split.cons 11 rfl)) (short15_spec V x.c x.q hok)) rfl ?_
        rintro _ H' ⟨_, ⟨q5, rfl, hb5, hbc5, rfl⟩, hH⟩
        simp only [List.cons_append, List.nil_append, List.eraseIdx_cons_zero, List.eraseIdx_cons_succ, List.set_cons_zero, List.set_cons_succ] at hH
        subst hH
        refine ops_eff' rfl (eff_alloc z47) rfl ?_
        rintro _ _ ⟨b11, rfl, rfl⟩
        refine ops_eff0 rfl (eff_storeA 0 ag47 rfl rfl rfl rfl rfl (Nat.le_of_ble_eq_true rfl) (warm_zero _)) rfl ?_
        rintro _ _ rfl
        simp only [List.set_cons_zero, List.set_cons_succ]
        refine ops_nil ?_
        refine Then_normal ?_
        refine over_cut (kept ⟨b11, q5, x, ⟨hok, hb5, hbc5⟩, rfl, rfl⟩ ?_ ?_ ?_)
        · exact (by repeat (first | exact Has.nil _ | refine Has.cons rfl ?_))
        · exact (by repeat (first | exact Has.nil _ | refine Has.cons rfl ?_))
        · exact (SubH.cons 0 rfl (SubH.cons 1 rfl (SubH.cons 2 rfl (SubH.cons 1 rfl (SubH.nil _)))))
      · rintro Δ LL ⟨b5, q5, x, ⟨hok, hb5, hbc5⟩, rfl, rfl⟩
        simp only [List.cons_append, List.nil_append]
        refine wp_seq' ?_
        have hp5 := shortA_p x.c
        have hb6 := shortA_b x.c
        have hln : (lastN (shortA x.c).p).length ≤ 32 := lastN_le few2_le
        refine wp_know (fun w F s => row_caps 1 rfl s) ?_
        intro hcp
        refine wp_region' ?_
        refine ops_ro' rfl (ro_move rfl) rfl ?_
        refine ops_ro' rfl (ro_fieldAddr fa47_2 rfl) rfl ?_
        refine ops_ro' rfl (ro_load sc29 rfl (Rd.pick 0 rfl (Rd.own rfl))) rfl ?_
        refine ops_ro' rfl (ro_fieldAddr fa47_4 rfl) rfl ?_
        refine ops_ro' rfl (ro_load sc4 rfl (Rd.pick 0 rfl (Rd.own rfl))) rfl ?_
        refine ops_eff' rfl (eff_call Try.call11 rfl rfl (by repeat (first | exact Split.nil _ | apply Split.cons 0 rfl | apply Split.cons 1 rfl | apply Split.cons 2 rfl | apply Split.cons 3 rfl | apply Split.cons 4 rfl | apply Split.cons 5 rfl | apply Split.cons 6 rfl | apply Split.cons 7 rfl | apply Split.cons 8 rfl | apply Split.cons 9 rfl | apply Split.cons 10 rfl | apply Split.cons 11 rfl)) (tri_arg0 htb (make_spec (V := row 9 1 (.slice q5.pp ((shortA x.c).p).length q5.pc) ((shortA x.c).p).length (txs ((shortA x.c).p))) hW (by omega) q5.pp q5.pc (shortA x.c).p Vw.row hcp (by omega) (by omega) (shortA x.c).dir))) rfl ?_
        rintro _ H' ⟨_, ⟨t1, r1, i1, e1, rfl, hR1, hW1, rfl⟩, hH⟩
        simp only [List.cons_append, List.nil_append, List.eraseIdx_cons_zero, List.eraseIdx_cons_succ, List.set_cons_zero, List.set_cons_succ] at hH
        subst hH
        obtain ⟨hnx1, ht1⟩ := make_nx hR1
        refine ops_nil ?_
        refine Then_normal ?_
        refine wp_region' ?_
        refine ops_ro' rfl (ro_move rfl) rfl ?_
        refine ops_ro' rfl (ro_move rfl) rfl ?_
        refine ops_ro' rfl (ro_fieldAddr fa47_7 rfl) rfl ?_
        refine ops_ro' rfl (ro_load sc30 rfl (Rd.pick 2 rfl (Rd.own rfl))) rfl ?_
        refine ops_eff' rfl (eff_call Try.call14 rfl rfl (by repeat (first | exact Split.nil _ | apply Split.cons 0 rfl | apply Split.cons 1 rfl | apply Split.cons 2 rfl | apply Split.cons 3 rfl | apply Split.cons 4 rfl | apply Split.cons 5 rfl | apply Split.cons 6 rfl | apply Split.cons 7 rfl | apply Split.cons 8 rfl | apply Split.cons 9 rfl | apply Split.cons 10 rfl | apply Split.cons 11 rfl)) (tri_arg0 (by rw [ht1, htb]) (write_spec hW1 (i : Int) 0 (by omega) q5.bp q5.bc (shortA x.c).b hb5 (by omega)))) rfl ?_
        rintro _ H' ⟨_, ⟨t2, e2, rfl, hR2, rfl⟩, hH⟩
        simp only [List.cons_append, List.nil_append, List.eraseIdx_cons_zero, List.eraseIdx_cons_succ, List.set_cons_zero, List.set_cons_succ] at hH
        subst hH
        obtain ⟨hW2, hnx2, ht2, _⟩ := write_wf hW1 hR2
        refine ops_nil ?_
        refine InBlock_normal ?_
        refine Then_normal ?_
        refine wp_region' ?_
        refine ops_ro' rfl (ro_move rfl) rfl ?_
        refine ops_ro' rfl (ro_add rfl rfl (wrap_inc (by omega))) rfl ?_
        refine ops_ro' rfl (ro_assign rfl) rfl ?_
        refine ops_nil ?_
        refine Then_normal ?_
        refine back (m - 1) (by omega) (kept ⟨i + 1, t2, r1, ⟨by omega, by rw [ht2, ht1, htb], by omega, by omega, hW2⟩, rfl, rfl⟩ ?_ ?_ ?_)
        · exact (by repeat (first | exact Has.nil _ | refine Has.cons rfl ?_))
        · exact (by repeat (first | exact Has.nil _ | refine Has.cons rfl ?_))
        · exact (SubH.cons 0 rfl (SubH.cons 0 rfl (SubH.nil _)))
    · replace hc28 := of_decide_eq_false hc28
      refine wp_exit' ?_
      refine Then_exit ?_
      refine Then_exit ?_
      refine InBlock_here ?_
      refine Then_normal ?_
      refine wp_seq' ?_
      refine wp_region' ?_
      refine ops_ro' rfl (ro_move rfl) rfl ?_
      refine ops_eff' rfl (eff_callM (Pre := []) Try.call25 rfl rfl (Split.nil _) (tri_arg0 htb (save_spec (by first | exact Tv.pick 0 rfl (tree_tv t) | exact Tv.pick 1 rfl (tree_tv t) | exact Tv.pick 2 rfl (tree_tv t) | exact Tv.pick 3 rfl (tree_tv t) | exact Tv.pick 4 rfl (tree_tv t) | exact Tv.pick 5 rfl (tree_tv t) | exact Tv.pick 6 rfl (tree_tv t)) hW (by omega)))) rfl ?_
      rintro _ H' ⟨_, ⟨sb, p48, c48, rfl, _, hsl, rfl⟩, hH⟩
      simp only [List.cons_append, List.nil_append, List.eraseIdx_cons_zero, List.eraseIdx_cons_succ, List.set_cons_zero, List.set_cons_succ] at hH
      subst hH
      refine ops_ro' rfl (ro_assign rfl) rfl ?_
      refine ops_nil ?_
      refine Then_normal ?_
      refine wp_cutK 1014 (fun Δ LL => ∃ (n2 : Nat) (y2 : List UInt8) (p48 : Option Addr) (c48 : Nat), (n2 ≤ 1100008 ∧ n2 = y2.length) ∧ Δ = [(12, .slice p48 n2 c48)] ∧ LL = [row 5 1 (.slice p48 n2 c48) n2 (cel y2), V]) (Has.cons (k := 0) rfl (Has.cons (k := 12) rfl (Has.nil _))) ?_ ?_
      · refine wp_seq' ?_
        refine wp_region' ?_
        refine ops_ro' rfl (ro_move rfl) rfl ?_
        refine ops_ro' rfl (ro_sliceLen Try.underlying30 rfl) rfl ?_
        refine ops_ro' rfl (ro_gtr rfl rfl rfl) rfl ?_
        refine ops_nil ?_
        refine Then_normal ?_
        refine wp_cond' rfl (fun hc51 => ?_) (fun hc51 => ?_)
        · replace hc51 := of_decide_eq_true hc51
          refine wp_seq' ?_
          obtain ⟨k, hk0, hk1⟩ : ∃ k : Nat, (0 + at0 % (((sb.length - 1 : Nat) : Int) - 0 + 1)) = (k : Int) ∧ k < sb.length := by
            have g1 := Int.emod_nonneg at0 (show (((sb.length - 1 : Nat) : Int) - 0 + 1) ≠ 0 by omega)
            have g2 := Int.emod_lt_of_pos at0 (show 0 < (((sb.length - 1 : Nat) : Int) - 0 + 1) by omega)
            exact ⟨(0 + at0 % (((sb.length - 1 : Nat) : Int) - 0 + 1)).toNat, by omega, by omega⟩
          have hk2 := hk1
          refine wp_region' ?_
          refine ops_ro' rfl (ro_move rfl) rfl ?_
          refine ops_ro' rfl (ro_move rfl) rfl ?_
          refine ops_ro' rfl (ro_sliceLen Try.underlying30 rfl) rfl ?_
          refine ops_ro' rfl (ro_sub rfl rfl (wrap_dec (by omega) (by omega))) rfl ?_
          refine ops_eff' rfl (eff_call Try.call13 rfl rfl (by repeat (first | exact Split.nil _ | apply Split.cons 0 rfl | apply Split.cons 1 rfl | apply Split.cons 2 rfl | apply Split.cons 3 rfl | apply Split.cons 4 rfl | apply Split.cons 5 rfl | apply Split.cons 6 rfl | apply Split.cons 7 rfl | apply Split.cons 8 rfl | apply Split.cons 9 rfl | apply Split.cons 10 rfl | apply Split.cons 11 rfl)) (within_tw at0 0 ((sb.length - 1 : Nat) : Int) k (by omega) (by omega) (by omega) hk0)) rfl ?_
          rintro _ H' ⟨_, ⟨rfl, rfl⟩, hH⟩
          simp only [List.cons_append, List.nil_append, List.eraseIdx_cons_zero, List.eraseIdx_cons_succ, List.set_cons_zero, List.set_cons_succ] at hH
          subst hH
          refine ops_ro' rfl (ro_assign rfl) rfl ?_
          refine ops_nil ?_
          refine Then_normal ?_
          have hzz := UInt8.toNat_lt (sb[k] ^^^ tt)
          refine wp_know (fun w F s => row_ptr' 0 rfl s (by omega)) ?_
          rintro ⟨b48, rfl⟩
          refine wp_region' ?_
          refine ops_ro' rfl (ro_move rfl) rfl ?_
          refine ops_ro' rfl (ro_move rfl) rfl ?_
          refine ops_ro' rfl (ro_move rfl) rfl ?_
          refine ops_ro' rfl (ro_move rfl) rfl ?_
          refine ops_ro' rfl (ro_indexSlice sl30 rfl rfl rfl (by omega)) rfl ?_
          refine ops_ro' rfl (ro_load sc5 rfl (Rd.pick 0 rfl (Rd.row (by rw [Nat.zero_add, Nat.mul_one]; exact cel_get hk2)))) rfl ?_
          refine ops_ro' rfl (ro_move rfl) rfl ?_
          refine ops_ro' rfl (ro_xor rfl rfl (xor8 sb[k] tt)) rfl ?_
          refine ops_ro' rfl (ro_indexSlice sl30 rfl rfl rfl (by omega)) rfl ?_
          refine ops_eff0 rfl (eff_storeB 0 sc5 rfl rfl (by omega) (by omega) rfl rfl (by omega)) rfl ?_
          rintro _ _ rfl
          simp only [List.set_cons_zero, List.set_cons_succ]
          generalize hw : sb.set k (UInt8.ofNat (((sb[k] ^^^ tt).toNat : Nat) : Int).toNat) = w
          have hwl : w.length = sb.length := by rw [← hw, List.length_set]
          refine ops_nil ?_
          refine Then_normal ?_
          refine over_cut (kept ⟨sb.length, w, (some ⟨b48, 0, none⟩), c48, ⟨hsl, hwl.symm⟩, rfl, rfl⟩ ?_ ?_ ?_)
          · exact (by repeat (first | exact Has.nil _ | refine Has.cons rfl ?_))
          · exact (by repeat (first | exact Has.nil _ | refine Has.cons rfl ?_))
          · exact (SubH.cons 0 rfl (SubH.cons 1 rfl (SubH.nil _)))
        · replace hc51 := of_decide_eq_false hc51
          refine wp_skip' ?_
          refine Then_normal ?_
          refine over_cut (kept ⟨sb.length, sb, p48, c48, ⟨hsl, rfl⟩, rfl, rfl⟩ ?_ ?_ ?_)
          · exact (by repeat (first | exact Has.nil _ | refine Has.cons rfl ?_))
          · exact (by repeat (first | exact Has.nil _ | refine Has.cons rfl ?_))
          · exact (SubH.cons 0 rfl (SubH.cons 1 rfl (SubH.nil _)))
      · rintro Δ LL ⟨n2, y2, p48, c48, ⟨hy2, rfl⟩, rfl, rfl⟩
        simp only [List.cons_append, List.nil_append]
        refine wp_seq' ?_
        refine wp_seq' ?_
        refine wp_region' ?_
        refine ops_ro' rfl (ro_move rfl) rfl ?_
        refine ops_eff' rfl (eff_call Try.call12 rfl rfl (by repeat (first | exact Split.nil _ | apply Split.cons 0 rfl | apply Split.cons 1 rfl | apply Split.cons 2 rfl | apply Split.cons 3 rfl | apply Split.cons 4 rfl | apply Split.cons 5 rfl | apply Split.cons 6 rfl | apply Split.cons 7 rfl | apply Split.cons 8 rfl | apply Split.cons 9 rfl | apply Split.cons 10 rfl | apply Split.cons 11 rfl)) (kCut V bp bc b 500 hb hbc)) rfl ?_
        rintro _ H' ⟨_, ⟨_, ⟨p67, c67, rfl, hz0, hcz, rfl⟩, rfl⟩, hH⟩
        simp only [List.cons_append, List.nil_append, List.eraseIdx_cons_zero, List.eraseIdx_cons_succ, List.set_cons_zero, List.set_cons_succ] at hH
        subst hH
        have hzl : (b.take 500).length ≤ 500 := by rw [List.length_take]; omega
        generalize b.take 500 = z0 at *
        refine ops_ro' rfl (ro_move rfl) rfl ?_
        refine ops_eff' rfl (eff_lit sl22 rfl (sbld (cs := flat Sq.cs [⟨p67, c67, z0⟩, ⟨p48, c48, y2⟩]) [(.slice none 0 0), (.slice none 0 0)] sl22 (by decide) (by kernel_rfl) rfl) rfl (by decide)) rfl ?_
        rintro _ _ ⟨b69, rfl, rfl⟩
        refine ops_packS fun U eU => ?_
        obtain ⟨zs, hzs⟩ : ∃ zs : List (Slv UInt8), zs = [⟨p67, c67, z0⟩, ⟨p48, c48, y2⟩] := ⟨_, rfl⟩
        have hln : zs.length = 2 := by rw [hzs]; rfl
        have hP : Vw U (.slice (some ⟨b69, 0, none⟩) 2 2) 2 (flat Sq.cs zs) := by
          subst eU
          rw [hzs]
          exact Vw.pick 0 rfl Vw.row
        have hall : Zs U zs := by
          subst eU
          rw [hzs]
          exact zs_two ⟨(by first | exact Vw.pick 0 rfl hz0 | exact Vw.pick 1 rfl hz0 | exact Vw.pick 2 rfl hz0 | exact Vw.pick 3 rfl hz0 | exact Vw.pick 4 rfl hz0 | exact Vw.pick 5 rfl hz0 | exact Vw.pick 6 rfl hz0 | exact Vw.pick 7 rfl hz0 | exact Vw.pick 8 rfl hz0), by show z0.length ≤ 2000000; omega⟩ ⟨(by first | exact Vw.pick 0 rfl Vw.row | exact Vw.pick 1 rfl Vw.row | exact Vw.pick 2 rfl Vw.row | exact Vw.pick 3 rfl Vw.row | exact Vw.pick 4 rfl Vw.row | exact Vw.pick 5 rfl Vw.row), by show y2.length ≤ 2000000; omega⟩
        have hS : SubH [U] [V] := by
          subst eU
          exact sub_of (by repeat (first | exact SubH.nil _ | refine SubH.cons 0 rfl ?_ | refine SubH.cons 1 rfl ?_ | refine SubH.cons 2 rfl ?_ | refine SubH.cons 3 rfl ?_ | refine SubH.cons 4 rfl ?_ | refine SubH.cons 5 rfl ?_ | refine SubH.cons 6 rfl ?_ | refine SubH.cons 7 rfl ?_ | refine SubH.cons 8 rfl ?_ | refine SubH.cons 9 rfl ?_ | refine SubH.cons 10 rfl ?_ | refine SubH.cons 11 rfl ?_ | refine SubH.cons 12 rfl ?_ | refine SubH.cons 13 rfl ?_ | refine SubH.rown ?_))
        clear eU hzs
        refine ops_ro' rfl (ro_sliceLen Try.underlying22 rfl) rfl ?_
        refine ops_ro' rfl (ro_move rfl) rfl ?_
        refine ops_nil ?_
        refine Then_normal ?_
        refine wp_block' ?_
        refine wp_loopK 15 (fun m Δ LL => ∃ (i : Nat), (i + m = 2) ∧ Δ = [(71, .int .i64 (i : Nat))] ∧ LL = [U]) (m := 2) (Has.cons (k := 69) rfl (Has.cons (k := 70) rfl (Has.nil _))) (kept ⟨0, by omega, rfl, rfl⟩ (by repeat (first | exact Has.nil _ | refine Has.cons rfl ?_)) (by repeat (first | exact Has.nil _ | refine Has.cons rfl ?_)) (by repeat (first | exact SubH.nil _ | refine SubH.cons 0 rfl ?_ | refine SubH.cons 1 rfl ?_ | refine SubH.cons 2 rfl ?_ | refine SubH.cons 3 rfl ?_ | refine SubH.cons 4 rfl ?_ | refine SubH.cons 5 rfl ?_ | refine SubH.cons 6 rfl ?_ | refine SubH.cons 7 rfl ?_ | refine SubH.cons 8 rfl ?_ | refine SubH.cons 9 rfl ?_ | refine SubH.cons 10 rfl ?_ | refine SubH.cons 11 rfl ?_ | refine SubH.cons 12 rfl ?_ | refine SubH.cons 13 rfl ?_ | refine SubH.rown ?_))) ?_
        rintro m Δ LL ⟨i, hm, rfl, rfl⟩
        simp only [List.cons_append, List.nil_append]
        refine wp_seq' ?_
        refine wp_region' ?_
        refine ops_ro' rfl (ro_lss rfl rfl rfl) rfl ?_
        refine ops_nil ?_
        refine Then_normal ?_
        refine wp_seq' ?_
        refine wp_cond' rfl (fun hc72 => ?_) (fun hc72 => ?_)
        · replace hc72 := of_decide_eq_true hc72
          refine wp_skip' ?_
          refine Then_normal ?_
          refine wp_seq' ?_
          refine wp_block' ?_
          refine wp_seq' ?_
          have hi : i < zs.length := by omega
          refine wp_region' ?_
          refine ops_ro' rfl (ro_indexSlice sl22 rfl rfl rfl (by omega)) rfl ?_
          refine ops_ro' rfl (ro_load sc30 rfl (Rd.pick 0 rfl (Rd.elem (j := 0) (vw_rdn hP) Sq.len (List.getElem?_eq_getElem hi) rfl))) rfl ?_
          obtain ⟨j1, j2⟩ := hall _ (List.getElem_mem hi)
          generalize zs[i] = zz at *
          obtain ⟨zp, zc, z⟩ := zz
          simp only at j1 j2
          refine ops_ro' rfl (ro_assign rfl) rfl ?_
          refine ops_nil ?_
          refine Then_normal ?_
          refine wp_seq' ?_
          refine wp_region' ?_
          refine ops_ro' rfl (ro_move rfl) rfl ?_
          refine ops_eff' rfl (eff_callM (Pre := []) Try.call28 rfl rfl (Split.nil _) (load_spec zp zc z (by first | exact Vw.pick 0 rfl j1 | exact Vw.pick 1 rfl j1) (by omega))) rfl ?_
          rintro _ H' ⟨_, ⟨o, rfl, ho, _, rfl⟩, hH⟩
          simp only [List.cons_append, List.nil_append, List.eraseIdx_cons_zero, List.eraseIdx_cons_succ, List.set_cons_zero, List.set_cons_succ] at hH
          subst hH
          refine ops_ro' rfl (ro_move rfl) rfl ?_
          refine ops_ro' rfl (ro_extract rfl rfl) rfl ?_
          refine ops_ro' rfl (ro_extract rfl rfl) rfl ?_
          refine ops_ro' rfl (ro_assign rfl) rfl ?_
          refine ops_ro' rfl (ro_assign rfl) rfl ?_
          refine ops_nil ?_
          refine Then_normal ?_
          refine wp_seq' ?_
          refine wp_draw 25 (by kernel_rfl) (Split.cons 1 rfl (Split.nil _)) ?_
          refine any_ro' (i := 0) (by kernel_rfl) rfl rfl (ro_move rfl) rfl (fun _ _ _ h => h) ?_
          refine any_ro' (i := 1) (by kernel_rfl) rfl rfl (ro_ptrEqlNil Try.underlying24 rfl rfl rfl) rfl (fun _ _ _ h => h) ?_
          rw [isNone_map]
          refine any_ro' (i := 2) (by kernel_rfl) rfl rfl (ro_move rfl) rfl (fun _ _ _ h => h) ?_
          refine any_ro' (i := 3) (by kernel_rfl) rfl rfl (ro_neq rfl rfl (c := o.isNone) (by cases o <;> rfl)) rfl (fun _ _ _ h => h) ?_
          refine any_ro' (i := 4) (by kernel_rfl) rfl rfl (ro_neq_bool Try.underlying4 rfl rfl (c := false) (by cases o <;> rfl)) rfl (fun _ _ _ h => h) ?_
          refine any_ro' (i := 5) (by kernel_rfl) rfl rfl (ro_move (v := .bool false) rfl) rfl (fun _ _ _ h => h) ?_
          refine any_ro' (i := 6) (by kernel_rfl) rfl rfl (ro_move rfl) rfl (fun _ _ _ h => h) ?_
          refine any_ro' (i := 7) (by kernel_rfl) rfl rfl (ro_neq rfl rfl (c := o.isNone) (by cases o <;> rfl)) rfl (fun _ _ _ h => h) ?_
          refine any_split (i := 8) (by kernel_rfl) rfl rfl rfl rfl (fun _ _ _ h => h) (fun hg88 => ?_) (fun hg88 => ?_)
          · skip
            refine any_ro' (i := 9) (by kernel_rfl) rfl rfl (ro_move rfl) rfl (fun _ _ _ h => h) ?_
            refine any_ro' (i := 10) (by kernel_rfl) rfl rfl (ro_neq rfl rfl (c := false) (by cases o with | none => rfl | some _ => cases hg88)) rfl (fun _ _ _ h => h) ?_
            refine any_ro' (i := 11) (by kernel_rfl) rfl rfl (ro_pick rfl rfl) rfl (fun _ _ _ h => h) ?_
            refine any_ro' (i := 12) (by kernel_rfl) rfl rfl (ro_pick rfl rfl) rfl (fun _ _ _ h => h) ?_
            refine any_ro' (i := 13) (by kernel_rfl) rfl rfl (ro_move (v := .bool false) rfl) rfl (fun _ _ _ h => h) ?_
            refine any_ro' (i := 14) (by kernel_rfl) rfl rfl (ro_move rfl) rfl (fun _ _ _ h => h) ?_
            refine any_ro' (i := 15) (by kernel_rfl) rfl rfl (ro_ptrNeqNil Try.underlying24 rfl rfl rfl) rfl (fun _ _ _ h => h) ?_
            rw [isSome_map]
            refine any_split (i := 16) (by kernel_rfl) rfl rfl rfl rfl (fun _ _ _ h => h) (fun hg96 => ?_) (fun hg96 => ?_)
            · skip
              obtain ⟨s, rfl⟩ : ∃ s, o = some s := by cases o with
                | none => cases hg96
                | some s => exact ⟨s, rfl⟩
              obtain ⟨hW2, hS2, hN2⟩ := ho s rfl
              refine any_heap (H' := [tree s.1]) (fun w F s => s) ?_
              refine any_ro' (i := 17) (by kernel_rfl) rfl rfl (ro_move rfl) rfl (fun _ _ _ h => h) ?_
              refine any_ro' (i := 20) (by kernel_rfl) rfl rfl (ro_move rfl) rfl (fun _ _ _ h => h) ?_
              refine any_ro' (i := 21) (by kernel_rfl) rfl rfl (ro_toStr Try.underlying30 Try.underlying5 Try.underlying9 rfl (Vw.pick 0 rfl j1) rfl) rfl (fun _ _ _ h => h) ?_
              refine any_eff' (i := 18) (by kernel_rfl) rfl rfl (eff_callM (Pre := []) Try.call25 rfl rfl (Split.nil _) (save_spec (Tv.pick 0 rfl (tree_tv s.1)) hW2 hN2)) rfl ?_
              rintro _ H' ⟨_, ⟨s2, p98, c98, rfl, hs2, hsl2, rfl⟩, hH⟩
              simp only [List.cons_append, List.nil_append, List.eraseIdx_cons_zero, List.eraseIdx_cons_succ, List.set_cons_zero, List.set_cons_succ] at hH
              subst hH
              try obtain rfl := SaveR.same hs2 hS2
              refine any_eff' (i := 19) (by kernel_rfl) rfl rfl (eff_ro (ro_toStr Try.underlying30 Try.underlying5 Try.underlying9 rfl (Vw.pick 0 rfl Vw.row) rfl)) rfl ?_
              rintro _ _ ⟨rfl, rfl⟩
              refine any_ro' (i := 22) (by kernel_rfl) rfl rfl (ro_neqS rfl rfl (decide_eq_false (fun h => h rfl))) rfl (fun _ _ _ h => h) ?_
              refine any_ro' (i := 23) (by kernel_rfl) rfl rfl (ro_pick rfl rfl) rfl (fun _ _ _ h => h) ?_
              refine any_ro' (i := 24) (by kernel_rfl) rfl rfl (ro_pick rfl rfl) rfl (fun _ _ _ h => h) ?_
              refine any_done (by kernel_rfl) ?_
              refine Then_normal ?_
              refine wp_condF rfl ?_
              refine wp_skip' ?_
              refine InBlock_normal ?_
              refine Then_normal ?_
              refine wp_region' ?_
              refine ops_ro' rfl (ro_add rfl rfl (wrap_inc (by omega))) rfl ?_
              refine ops_ro' rfl (ro_move rfl) rfl ?_
              refine ops_nil ?_
              refine Then_normal ?_
              refine back (m - 1) (by omega) (kept ⟨i + 1, by omega, rfl, rfl⟩ ?_ ?_ ?_)
              · exact (by repeat (first | exact Has.nil _ | refine Has.cons rfl ?_))
              · exact (by repeat (first | exact Has.nil _ | refine Has.cons rfl ?_))
              · exact (SubH.cons 0 rfl (SubH.nil _))
            · skip
              refine any_skip' (i := 17) (by kernel_rfl) rfl rfl rfl (fun _ _ _ h => h) ?_
              refine any_skip' (i := 20) (by kernel_rfl) rfl rfl rfl (fun _ _ _ h => h) ?_
              refine any_skip' (i := 21) (by kernel_rfl) rfl rfl rfl (fun _ _ _ h => h) ?_
              refine any_skip' (i := 18) (by kernel_rfl) rfl rfl rfl (fun _ _ _ h => h) ?_
              try obtain rfl := SaveR.same hs2 hS2
              refine any_skip' (i := 19) (by kernel_rfl) rfl rfl rfl (fun _ _ _ h => h) ?_
              refine any_skip' (i := 22) (by kernel_rfl) rfl rfl rfl (fun _ _ _ h => h) ?_
              refine any_ro' (i := 23) (by kernel_rfl) rfl rfl (ro_pick rfl rfl) rfl (fun _ _ _ h => h) ?_
              refine any_ro' (i := 24) (by kernel_rfl) rfl rfl (ro_pick rfl rfl) rfl (fun _ _ _ h => h) ?_
              refine any_done (by kernel_rfl) ?_
              refine Then_normal ?_
              refine wp_condF rfl ?_
              refine wp_skip' ?_
              refine InBlock_normal ?_
              refine Then_normal ?_
              refine wp_region' ?_
              refine ops_ro' rfl (ro_add rfl rfl (wrap_inc (by omega))) rfl ?_
              refine ops_ro' rfl (ro_move rfl) rfl ?_
              refine ops_nil ?_
              refine Then_normal ?_
              refine back (m - 1) (by omega) (kept ⟨i + 1, by omega, rfl, rfl⟩ ?_ ?_ ?_)
              · exact (by repeat (first | exact Has.nil _ | refine Has.cons rfl ?_))
              · exact (by repeat (first | exact Has.nil _ | refine Has.cons rfl ?_))
              · exact (SubH.cons 0 rfl (SubH.nil _))
          · skip
            refine any_skip' (i := 9) (by kernel_rfl) rfl rfl rfl (fun _ _ _ h => h) ?_
            refine any_skip' (i := 10) (by kernel_rfl) rfl rfl rfl (fun _ _ _ h => h) ?_
            refine any_ro' (i := 11) (by kernel_rfl) rfl rfl (ro_pick rfl rfl) rfl (fun _ _ _ h => h) ?_
            refine any_ro' (i := 12) (by kernel_rfl) rfl rfl (ro_pick rfl rfl) rfl (fun _ _ _ h => h) ?_
            refine any_ro' (i := 13) (by kernel_rfl) rfl rfl (ro_move (v := .bool false) rfl) rfl (fun _ _ _ h => h) ?_
            refine any_ro' (i := 14) (by kernel_rfl) rfl rfl (ro_move rfl) rfl (fun _ _ _ h => h) ?_
            refine any_ro' (i := 15) (by kernel_rfl) rfl rfl (ro_ptrNeqNil Try.underlying24 rfl rfl rfl) rfl (fun _ _ _ h => h) ?_
            rw [isSome_map]
            refine any_split (i := 16) (by kernel_rfl) rfl rfl rfl rfl (fun _ _ _ h => h) (fun hg96 => ?_) (fun hg96 => ?_)
            · skip
              obtain ⟨s, rfl⟩ : ∃ s, o = some s := by cases o with
                | none => cases hg96
                | some s => exact ⟨s, rfl⟩
              obtain ⟨hW2, hS2, hN2⟩ := ho s rfl
              refine any_heap (H' := [tree s.1]) (fun w F s => s) ?_
              refine any_ro' (i := 17) (by kernel_rfl) rfl rfl (ro_move rfl) rfl (fun _ _ _ h => h) ?_
              refine any_ro' (i := 20) (by kernel_rfl) rfl rfl (ro_move rfl) rfl (fun _ _ _ h => h) ?_
              refine any_ro' (i := 21) (by kernel_rfl) rfl rfl (ro_toStr Try.underlying30 Try.underlying5 Try.underlying9 rfl (Vw.pick 0 rfl j1) rfl) rfl (fun _ _ _ h => h) ?_
              refine any_eff' (i := 18) (by kernel_rfl) rfl rfl (eff_callM (Pre := []) Try.call25 rfl rfl (Split.nil _) (save_spec (Tv.pick 0 rfl (tree_tv s.1)) hW2 hN2)) rfl ?_
              rintro _ H' ⟨_, ⟨s2, p98, c98, rfl, hs2, hsl2, rfl⟩, hH⟩
              simp only [List.cons_append, List.nil_append, List.eraseIdx_cons_zero, List.eraseIdx_cons_succ, List.set_cons_zero, List.set_cons_succ] at hH
              subst hH
              try obtain rfl := SaveR.same hs2 hS2
              refine any_eff' (i := 19) (by kernel_rfl) rfl rfl (eff_ro (ro_toStr Try.underlying30 Try.underlying5 Try.underlying9 rfl (Vw.pick 0 rfl Vw.row) rfl)) rfl ?_
              rintro _ _ ⟨rfl, rfl⟩
              refine any_ro' (i := 22) (by kernel_rfl) rfl rfl (ro_neqS rfl rfl (decide_eq_false (fun h => h rfl))) rfl (fun _ _ _ h => h) ?_
              refine any_ro' (i := 23) (by kernel_rfl) rfl rfl (ro_pick rfl rfl) rfl (fun _ _ _ h => h) ?_
              refine any_ro' (i := 24) (by kernel_rfl) rfl rfl (ro_pick rfl rfl) rfl (fun _ _ _ h => h) ?_
              refine any_done (by kernel_rfl) ?_
              refine Then_normal ?_
              refine wp_condF rfl ?_
              refine wp_skip' ?_
              refine InBlock_normal ?_
              refine Then_normal ?_
              refine wp_region' ?_
              refine ops_ro' rfl (ro_add rfl rfl (wrap_inc (by omega))) rfl ?_
              refine ops_ro' rfl (ro_move rfl) rfl ?_
              refine ops_nil ?_
              refine Then_normal ?_
              refine back (m - 1) (by omega) (kept ⟨i + 1, by omega, rfl, rfl⟩ ?_ ?_ ?_)
              · exact (by repeat (first | exact Has.nil _ | refine Has.cons rfl ?_))
              · exact (by repeat (first | exact Has.nil _ | refine Has.cons rfl ?_))
              · exact (SubH.cons 0 rfl (SubH.nil _))
            · skip
              refine any_skip' (i := 17) (by kernel_rfl) rfl rfl rfl (fun _ _ _ h => h) ?_
              refine any_skip' (i := 20) (by kernel_rfl) rfl rfl rfl (fun _ _ _ h => h) ?_
              refine any_skip' (i := 21) (by kernel_rfl) rfl rfl rfl (fun _ _ _ h => h) ?_
              refine any_skip' (i := 18) (by kernel_rfl) rfl rfl rfl (fun _ _ _ h => h) ?_
              try obtain rfl := SaveR.same hs2 hS2
              refine any_skip' (i := 19) (by kernel_rfl) rfl rfl rfl (fun _ _ _ h => h) ?_
              refine any_skip' (i := 22) (by kernel_rfl) rfl rfl rfl (fun _ _ _ h => h) ?_
              refine any_ro' (i := 23) (by kernel_rfl) rfl rfl (ro_pick rfl rfl) rfl (fun _ _ _ h => h) ?_
              refine any_ro' (i := 24) (by kernel_rfl) rfl rfl (ro_pick rfl rfl) rfl (fun _ _ _ h => h) ?_
              refine any_done (by kernel_rfl) ?_
              refine Then_normal ?_
              refine wp_condF rfl ?_
              refine wp_skip' ?_
              refine InBlock_normal ?_
              refine Then_normal ?_
              refine wp_region' ?_
              refine ops_ro' rfl (ro_add rfl rfl (wrap_inc (by omega))) rfl ?_
              refine ops_ro' rfl (ro_move rfl) rfl ?_
              refine ops_nil ?_
              refine Then_normal ?_
              refine back (m - 1) (by omega) (kept ⟨i + 1, by omega, rfl, rfl⟩ ?_ ?_ ?_)
              · exact (by repeat (first | exact Has.nil _ | refine Has.cons rfl ?_))
              · exact (by repeat (first | exact Has.nil _ | refine Has.cons rfl ?_))
              · exact (SubH.cons 0 rfl (SubH.nil _))
        · replace hc72 := of_decide_eq_false hc72
          refine wp_exit' ?_
          refine Then_exit ?_
          refine Then_exit ?_
          refine InBlock_here ?_
          refine Then_normal ?_
          refine wp_seq' ?_
          refine wp_region' ?_
          refine ops_eff' rfl (eff_call Try.call18 rfl rfl (by repeat (first | exact Split.nil _ | apply Split.cons 0 rfl | apply Split.cons 1 rfl | apply Split.cons 2 rfl | apply Split.cons 3 rfl | apply Split.cons 4 rfl | apply Split.cons 5 rfl | apply Split.cons 6 rfl | apply Split.cons 7 rfl | apply Split.cons 8 rfl | apply Split.cons 9 rfl | apply Split.cons 10 rfl | apply Split.cons 11 rfl)) (known15_spec)) rfl ?_
          rintro _ H' ⟨_, ⟨rfl, rfl⟩, hH⟩
          simp only [List.cons_append, List.nil_append, List.eraseIdx_cons_zero, List.eraseIdx_cons_succ, List.set_cons_zero, List.set_cons_succ] at hH
          subst hH
          refine ops_ro' rfl (ro_assign rfl) rfl ?_
          refine ops_nil ?_
          refine Then_normal ?_
          refine wp_ret' ?_
          refine doneS_pre2 (SubH.trans (show SubH _ [U] from (by repeat (first | exact SubH.nil _ | refine SubH.cons 0 rfl ?_ | refine SubH.cons 1 rfl ?_ | refine SubH.cons 2 rfl ?_ | refine SubH.cons 3 rfl ?_ | refine SubH.cons 4 rfl ?_ | refine SubH.cons 5 rfl ?_ | refine SubH.cons 6 rfl ?_ | refine SubH.cons 7 rfl ?_ | refine SubH.cons 8 rfl ?_ | refine SubH.cons 9 rfl ?_ | refine SubH.cons 10 rfl ?_ | refine SubH.cons 11 rfl ?_ | refine SubH.cons 12 rfl ?_ | refine SubH.cons 13 rfl ?_ | refine SubH.rown ?_))) hS) ?_
          refine' doneS_ret (res1 rfl rfl) ?_ ?_
          rotate_left 1
          exact ⟨rfl, rfl⟩
          exact SubH.refl _
  · replace hg25 := of_decide_eq_false hg25
    refine ops_skip' rfl rfl ?_
    refine ops_skip' rfl rfl ?_
    refine ops_ro' rfl (ro_pick rfl rfl) rfl ?_
    refine ops_nil ?_
    refine Then_normal ?_
    refine wp_condF rfl ?_
    refine wp_exit' ?_
    refine Then_exit ?_
    refine Then_exit ?_
    refine InBlock_here ?_
    refine Then_normal ?_
    refine wp_seq' ?_
    refine wp_region' ?_
    refine ops_ro' rfl (ro_move rfl) rfl ?_
    refine ops_eff' rfl (eff_callM (Pre := []) Try.call25 rfl rfl (Split.nil _) (tri_arg0 htb (save_spec (by first | exact Tv.pick 0 rfl (tree_tv t) | exact Tv.pick 1 rfl (tree_tv t) | exact Tv.pick 2 rfl (tree_tv t) | exact Tv.pick 3 rfl (tree_tv t) | exact Tv.pick 4 rfl (tree_tv t) | exact Tv.pick 5 rfl (tree_tv t) | exact Tv.pick 6 rfl (tree_tv t)) hW (by omega)))) rfl ?_
    rintro _ H' ⟨_, ⟨sb, p48, c48, rfl, _, hsl, rfl⟩, hH⟩
    simp only [List.cons_append, List.nil_append, List.eraseIdx_cons_zero, List.eraseIdx_cons_succ, List.set_cons_zero, List.set_cons_succ] at hH
    subst hH
    refine ops_ro' rfl (ro_assign rfl) rfl ?_
    refine ops_nil ?_
    refine Then_normal ?_
    refine wp_cutK 1014 (fun Δ LL => ∃ (n2 : Nat) (y2 : List UInt8) (p48 : Option Addr) (c48 : Nat), (n2 ≤ 1100008 ∧ n2 = y2.length) ∧ Δ = [(12, .slice p48 n2 c48)] ∧ LL = [row 5 1 (.slice p48 n2 c48) n2 (cel y2), V]) (Has.cons (k := 0) rfl (Has.cons (k := 12) rfl (Has.nil _))) ?_ ?_
    · refine wp_seq' ?_
      refine wp_region' ?_
      refine ops_ro' rfl (ro_move rfl) rfl ?_
      refine ops_ro' rfl (ro_sliceLen Try.underlying30 rfl) rfl ?_
      refine ops_ro' rfl (ro_gtr rfl rfl rfl) rfl ?_
      refine ops_nil ?_
      refine Then_normal ?_
      refine wp_cond' rfl (fun hc51 => ?_) (fun hc51 => ?_)
      · replace hc51 := of_decide_eq_true hc51
        refine wp_seq' ?_
        obtain ⟨k, hk0, hk1⟩ : ∃ k : Nat, (0 + at0 % (((sb.length - 1 : Nat) : Int) - 0 + 1)) = (k : Int) ∧ k < sb.length := by
          have g1 := Int.emod_nonneg at0 (show (((sb.length - 1 : Nat) : Int) - 0 + 1) ≠ 0 by omega)
          have g2 := Int.emod_lt_of_pos at0 (show 0 < (((sb.length - 1 : Nat) : Int) - 0 + 1) by omega)
          exact ⟨(0 + at0 % (((sb.length - 1 : Nat) : Int) - 0 + 1)).toNat, by omega, by omega⟩
        have hk2 := hk1
        refine wp_region' ?_
        refine ops_ro' rfl (ro_move rfl) rfl ?_
        refine ops_ro' rfl (ro_move rfl) rfl ?_
        refine ops_ro' rfl (ro_sliceLen Try.underlying30 rfl) rfl ?_
        refine ops_ro' rfl (ro_sub rfl rfl (wrap_dec (by omega) (by omega))) rfl ?_
        refine ops_eff' rfl (eff_call Try.call13 rfl rfl (by repeat (first | exact Split.nil _ | apply Split.cons 0 rfl | apply Split.cons 1 rfl | apply Split.cons 2 rfl | apply Split.cons 3 rfl | apply Split.cons 4 rfl | apply Split.cons 5 rfl | apply Split.cons 6 rfl | apply Split.cons 7 rfl | apply Split.cons 8 rfl | apply Split.cons 9 rfl | apply Split.cons 10 rfl | apply Split.cons 11 rfl)) (within_tw at0 0 ((sb.length - 1 : Nat) : Int) k (by omega) (by omega) (by omega) hk0)) rfl ?_
        rintro _ H' ⟨_, ⟨rfl, rfl⟩, hH⟩
        simp only [List.cons_append, List.nil_append, List.eraseIdx_cons_zero, List.eraseIdx_cons_succ, List.set_cons_zero, List.set_cons_succ] at hH
        subst hH
        refine ops_ro' rfl (ro_assign rfl) rfl ?_
        refine ops_nil ?_
        refine Then_normal ?_
        have hzz := UInt8.toNat_lt (sb[k] ^^^ tt)
        refine wp_know (fun w F s => row_ptr' 0 rfl s (by omega)) ?_
        rintro ⟨b48, rfl⟩
        refine wp_region' ?_
        refine ops_ro' rfl (ro_move rfl) rfl ?_
        refine ops_ro' rfl (ro_move rfl) rfl ?_
        refine ops_ro' rfl (ro_move rfl) rfl ?_
        refine ops_ro' rfl (ro_move rfl) rfl ?_
        refine ops_ro' rfl (ro_indexSlice sl30 rfl rfl rfl (by omega)) rfl ?_
        refine ops_ro' rfl (ro_load sc5 rfl (Rd.pick 0 rfl (Rd.row (by rw [Nat.zero_add, Nat.mul_one]; exact cel_get hk2)))) rfl ?_
        refine ops_ro' rfl (ro_move rfl) rfl ?_
        refine ops_ro' rfl (ro_xor rfl rfl (xor8 sb[k] tt)) rfl ?_
        refine ops_ro' rfl (ro_indexSlice sl30 rfl rfl rfl (by omega)) rfl ?_
        refine ops_eff0 rfl (eff_storeB 0 sc5 rfl rfl (by omega) (by omega) rfl rfl (by omega)) rfl ?_
        rintro _ _ rfl
        simp only [List.set_cons_zero, List.set_cons_succ]
        generalize hw : sb.set k (UInt8.ofNat (((sb[k] ^^^ tt).toNat : Nat) : Int).toNat) = w
        have hwl : w.length = sb.length := by rw [← hw, List.length_set]
        refine ops_nil ?_
        refine Then_normal ?_
        refine over_cut (kept ⟨sb.length, w, (some ⟨b48, 0, none⟩), c48, ⟨hsl, hwl.symm⟩, rfl, rfl⟩ ?_ ?_ ?_)
        · exact (by repeat (first | exact Has.nil _ | refine Has.cons rfl ?_))
        · exact (by repeat (first | exact Has.nil _ | refine Has.cons rfl ?_))
        · exact (SubH.cons 0 rfl (SubH.cons 1 rfl (SubH.nil _)))
      · replace hc51 := of_decide_eq_false hc51
        refine wp_skip' ?_
        refine Then_normal ?_
        refine over_cut (kept ⟨sb.length, sb, p48, c48, ⟨hsl, rfl⟩, rfl, rfl⟩ ?_ ?_ ?_)
        · exact (by repeat (first | exact Has.nil _ | refine Has.cons rfl ?_))
        · exact (by repeat (first | exact Has.nil _ | refine Has.cons rfl ?_))
        · exact (SubH.cons 0 rfl (SubH.cons 1 rfl (SubH.nil _)))
    · rintro Δ LL ⟨n2, y2, p48, c48, ⟨hy2, rfl⟩, rfl, rfl⟩
      simp only [List.cons_append, List.nil_append]
      refine wp_seq' ?_
      refine wp_seq' ?_
      refine wp_region' ?_
      refine ops_ro' rfl (ro_move rfl) rfl ?_
      refine ops_eff' rfl (eff_call Try.call12 rfl rfl (by repeat (first | exact Split.nil _ | apply Split.cons 0 rfl | apply Split.cons 1 rfl | apply Split.cons 2 rfl | apply Split.cons 3 rfl | apply Split.cons 4 rfl | apply Split.cons 5 rfl | apply Split.cons 6 rfl | apply Split.cons 7 rfl | apply Split.cons 8 rfl | apply Split.cons 9 rfl | apply Split.cons 10 rfl | apply Split.cons 11 rfl)) (kCut V bp bc b 500 hb hbc)) rfl ?_
      rintro _ H' ⟨_, ⟨_, ⟨p67, c67, rfl, hz0, hcz, rfl⟩, rfl⟩, hH⟩
      simp only [List.cons_append, List.nil_append, List.eraseIdx_cons_zero, List.eraseIdx_cons_succ, List.set_cons_zero, List.set_cons_succ] at hH
      subst hH
      have hzl : (b.take 500).length ≤ 500 := by rw [List.length_take]; omega
      generalize b.take 500 = z0 at *
      refine ops_ro' rfl (ro_move rfl) rfl ?_
      refine ops_eff' rfl (eff_lit sl22 rfl (sbld (cs := flat Sq.cs [⟨p67, c67, z0⟩, ⟨p48, c48, y2⟩]) [(.slice none 0 0), (.slice none 0 0)] sl22 (by decide) (by kernel_rfl) rfl) rfl (by decide)) rfl ?_
      rintro _ _ ⟨b69, rfl, rfl⟩
      refine ops_packS fun U eU => ?_
      obtain ⟨zs, hzs⟩ : ∃ zs : List (Slv UInt8), zs = [⟨p67, c67, z0⟩, ⟨p48, c48, y2⟩] := ⟨_, rfl⟩
      have hln : zs.length = 2 := by rw [hzs]; rfl
      have hP : Vw U (.slice (some ⟨b69, 0, none⟩) 2 2) 2 (flat Sq.cs zs) := by
        subst eU
        rw [hzs]
        exact Vw.pick 0 rfl Vw.row
      have hall : Zs U zs := by
        subst eU
        rw [hzs]
        exact zs_two ⟨(by first | exact Vw.pick 0 rfl hz0 | exact Vw.pick 1 rfl hz0 | exact Vw.pick 2 rfl hz0 | exact Vw.pick 3 rfl hz0 | exact Vw.pick 4 rfl hz0 | exact Vw.pick 5 rfl hz0 | exact Vw.pick 6 rfl hz0 | exact Vw.pick 7 rfl hz0 | exact Vw.pick 8 rfl hz0), by show z0.length ≤ 2000000; omega⟩ ⟨(by first | exact Vw.pick 0 rfl Vw.row | exact Vw.pick 1 rfl Vw.row | exact Vw.pick 2 rfl Vw.row | exact Vw.pick 3 rfl Vw.row | exact Vw.pick 4 rfl Vw.row | exact Vw.pick 5 rfl Vw.row), by show y2.length ≤ 2000000; omega⟩
      have hS : SubH [U] [V] := by
        subst eU
        exact sub_of (by repeat (first | exact SubH.nil _ | refine SubH.cons 0 rfl ?_ | refine SubH.cons 1 rfl ?_ | refine SubH.cons 2 rfl ?_ | refine SubH.cons 3 rfl ?_ | refine SubH.cons 4 rfl ?_ | refine SubH.cons 5 rfl ?_ | refine SubH.cons 6 rfl ?_ | refine SubH.cons 7 rfl ?_ | refine SubH.cons 8 rfl ?_ | refine SubH.cons 9 rfl ?_ | refine SubH.cons 10 rfl ?_ | refine SubH.cons 11 rfl ?_ | refine SubH.cons 12 rfl ?_ | refine SubH.cons 13 rfl ?_ | refine SubH.rown ?_))
      clear eU hzs
      refine ops_ro' rfl (ro_sliceLen Try.underlying22 rfl) rfl ?_
      refine ops_ro' rfl (ro_move rfl) rfl ?_
      refine ops_nil ?_
      refine Then_normal ?_
      refine wp_block' ?_
      refine wp_loopK 15 (fun m Δ LL => ∃ (i : Nat), (i + m = 2) ∧ Δ = [(71, .int .i64 (i : Nat))] ∧ LL = [U]) (m := 2) (Has.cons (k := 69) rfl (Has.cons (k := 70) rfl (Has.nil _))) (kept ⟨0, by omega, rfl, rfl⟩ (by repeat (first | exact Has.nil _ | refine Has.cons rfl ?_)) (by repeat (first | exact Has.nil _ | refine Has.cons rfl ?_)) (by repeat (first | exact SubH.nil _ | refine SubH.cons 0 rfl ?_ | refine SubH.cons 1 rfl ?_ | refine SubH.cons 2 rfl ?_ | refine SubH.cons 3 rfl ?_ | refine SubH.cons 4 rfl ?_ | refine SubH.cons 5 rfl ?_ | refine SubH.cons 6 rfl ?_ | refine SubH.cons 7 rfl ?_ | refine SubH.cons 8 rfl ?_ | refine SubH.cons 9 rfl ?_ | refine SubH.cons 10 rfl ?_ | refine SubH.cons 11 rfl ?_ | refine SubH.cons 12 rfl ?_ | refine SubH.cons 13 rfl ?_ | refine SubH.rown ?_))) ?_
      rintro m Δ LL ⟨i, hm, rfl, rfl⟩
      simp only [List.cons_append, List.nil_append]
      refine wp_seq' ?_
      refine wp_region' ?_
      refine ops_ro' rfl (ro_lss rfl rfl rfl) rfl ?_
      refine ops_nil ?_
      refine Then_normal ?_
      refine wp_seq' ?_
      refine wp_cond' rfl (fun hc72 => ?_) (fun hc72 => ?_)
      · replace hc72 := of_decide_eq_true hc72
        refine wp_skip' ?_
        refine Then_normal ?_
        refine wp_seq' ?_
        refine wp_block' ?_
        refine wp_seq' ?_
        have hi : i < zs.length := by omega
        refine wp_region' ?_
        refine ops_ro' rfl (ro_indexSlice sl22 rfl rfl rfl (by omega)) rfl ?_
        refine ops_ro' rfl (ro_load sc30 rfl (Rd.pick 0 rfl (Rd.elem (j := 0) (vw_rdn hP) Sq.len (List.getElem?_eq_getElem hi) rfl))) rfl ?_
        obtain ⟨j1, j2⟩ := hall _ (List.getElem_mem hi)
        generalize zs[i] = zz at *
        obtain ⟨zp, zc, z⟩ := zz
        simp only at j1 j2
        refine ops_ro' rfl (ro_assign rfl) rfl ?_
        refine ops_nil ?_
        refine Then_normal ?_
        refine wp_seq' ?_
        refine wp_region' ?_
        refine ops_ro' rfl (ro_move rfl) rfl ?_
        refine ops_eff' rfl (eff_callM (Pre := []) Try.call28 rfl rfl (Split.nil _) (load_spec zp zc z (by first | exact Vw.pick 0 rfl j1 | exact Vw.pick 1 rfl j1) (by omega))) rfl ?_
        rintro _ H' ⟨_, ⟨o, rfl, ho, _, rfl⟩, hH⟩
        simp only [List.cons_append, List.nil_append, List.eraseIdx_cons_zero, List.eraseIdx_cons_succ, List.set_cons_zero, List.set_cons_succ] at hH
        subst hH
        refine ops_ro' rfl (ro_move rfl) rfl ?_
        refine ops_ro' rfl (ro_extract rfl rfl) rfl ?_
        refine ops_ro' rfl (ro_extract rfl rfl) rfl ?_
        refine ops_ro' rfl (ro_assign rfl) rfl ?_
        refine ops_ro' rfl (ro_assign rfl) rfl ?_
        refine ops_nil ?_
        refine Then_normal ?_
        refine wp_seq' ?_
        refine wp_draw 25 (by kernel_rfl) (Split.cons 1 rfl (Split.nil _)) ?_
        refine any_ro' (i := 0) (by kernel_rfl) rfl rfl (ro_move rfl) rfl (fun _ _ _ h => h) ?_
        refine any_ro' (i := 1) (by kernel_rfl) rfl rfl (ro_ptrEqlNil Try.underlying24 rfl rfl rfl) rfl (fun _ _ _ h => h) ?_
        rw [isNone_map]
        refine any_ro' (i := 2) (by kernel_rfl) rfl rfl (ro_move rfl) rfl (fun _ _ _ h => h) ?_
        refine any_ro' (i := 3) (by kernel_rfl) rfl rfl (ro_neq rfl rfl (c := o.isNone) (by cases o <;> rfl)) rfl (fun _ _ _ h => h) ?_
        refine any_ro' (i := 4) (by kernel_rfl) rfl rfl (ro_neq_bool Try.underlying4 rfl rfl (c := false) (by cases o <;> rfl)) rfl (fun _ _ _ h => h) ?_
        refine any_ro' (i := 5) (by kernel_rfl) rfl rfl (ro_move (v := .bool false) rfl) rfl (fun _ _ _ h => h) ?_
        refine any_ro' (i := 6) (by kernel_rfl) rfl rfl (ro_move rfl) rfl (fun _ _ _ h => h) ?_
        refine any_ro' (i := 7) (by kernel_rfl) rfl rfl (ro_neq rfl rfl (c := o.isNone) (by cases o <;> rfl)) rfl (fun _ _ _ h => h) ?_
        refine any_split (i := 8) (by kernel_rfl) rfl rfl rfl rfl (fun _ _ _ h => h) (fun hg88 => ?_) (fun hg88 => ?_)
        · skip
          refine any_ro' (i := 9) (by kernel_rfl) rfl rfl (ro_move rfl) rfl (fun _ _ _ h => h) ?_
          refine any_ro' (i := 10) (by kernel_rfl) rfl rfl (ro_neq rfl rfl (c := false) (by cases o with | none => rfl | some _ => cases hg88)) rfl (fun _ _ _ h => h) ?_
          refine any_ro' (i := 11) (by kernel_rfl) rfl rfl (ro_pick rfl rfl) rfl (fun _ _ _ h => h) ?_
          refine any_ro' (i := 12) (by kernel_rfl) rfl rfl (ro_pick rfl rfl) rfl (fun _ _ _ h => h) ?_
          refine any_ro' (i := 13) (by kernel_rfl) rfl rfl (ro_move (v := .bool false) rfl) rfl (fun _ _ _ h => h) ?_
          refine any_ro' (i := 14) (by kernel_rfl) rfl rfl (ro_move rfl) rfl (fun _ _ _ h => h) ?_
          refine any_ro' (i := 15) (by kernel_rfl) rfl rfl (ro_ptrNeqNil Try.underlying24 rfl rfl rfl) rfl (fun _ _ _ h => h) ?_
          rw [isSome_map]
          refine any_split (i := 16) (by kernel_rfl) rfl rfl rfl rfl (fun _ _ _ h => h) (fun hg96 => ?_) (fun hg96 => ?_)
          · skip
            obtain ⟨s, rfl⟩ : ∃ s, o = some s := by cases o with
              | none => cases hg96
              | some s => exact ⟨s, rfl⟩
            obtain ⟨hW2, hS2, hN2⟩ := ho s rfl
            refine any_heap (H' := [tree s.1]) (fun w F s => s) ?_
            refine any_ro' (i := 17) (by kernel_rfl) rfl rfl (ro_move rfl) rfl (fun _ _ _ h => h) ?_
            refine any_ro' (i := 20) (by kernel_rfl) rfl rfl (ro_move rfl) rfl (fun _ _ _ h => h) ?_
            refine any_ro' (i := 21) (by kernel_rfl) rfl rfl (ro_toStr Try.underlying30 Try.underlying5 Try.underlying9 rfl (Vw.pick 0 rfl j1) rfl) rfl (fun _ _ _ h => h) ?_
            refine any_eff' (i := 18) (by kernel_rfl) rfl rfl (eff_callM (Pre := []) Try.call25 rfl rfl (Split.nil _) (save_spec (Tv.pick 0 rfl (tree_tv s.1)) hW2 hN2)) rfl ?_
            rintro _ H' ⟨_, ⟨s2, p98, c98, rfl, hs2, hsl2, rfl⟩, hH⟩
            simp only [List.cons_append, List.nil_append, List.eraseIdx_cons_zero, List.eraseIdx_cons_succ, List.set_cons_zero, List.set_cons_succ] at hH
            subst hH
            try obtain rfl := SaveR.same hs2 hS2
            refine any_eff' (i := 19) (by kernel_rfl) rfl rfl (eff_ro (ro_toStr Try.underlying30 Try.underlying5 Try.underlying9 rfl (Vw.pick 0 rfl Vw.row) rfl)) rfl ?_
            rintro _ _ ⟨rfl, rfl⟩
            refine any_ro' (i := 22) (by kernel_rfl) rfl rfl (ro_neqS rfl rfl (decide_eq_false (fun h => h rfl))) rfl (fun _ _ _ h => h) ?_
            refine any_ro' (i := 23) (by kernel_rfl) rfl rfl (ro_pick rfl rfl) rfl (fun _ _ _ h => h) ?_
            refine any_ro' (i := 24) (by kernel_rfl) rfl rfl (ro_pick rfl rfl) rfl (fun _ _ _ h => h) ?_
            refine any_done (by kernel_rfl) ?_
            refine Then_normal ?_
            refine wp_condF rfl ?_
            refine wp_skip' ?_
            refine InBlock_normal ?_
            refine Then_normal ?_
            refine wp_region' ?_
            refine ops_ro' rfl (ro_add rfl rfl (wrap_inc (by omega))) rfl ?_
            refine ops_ro' rfl (ro_move rfl) rfl ?_
            refine ops_nil ?_
            refine Then_normal ?_
            refine back (m - 1) (by omega) (kept ⟨i + 1, by omega, rfl, rfl⟩ ?_ ?_ ?_)
            · exact (by repeat (first | exact Has.nil _ | refine Has.cons rfl ?_))
            · exact (by repeat (first | exact Has.nil _ | refine Has.cons rfl ?_))
            · exact (SubH.cons 0 rfl (SubH.nil _))
          · skip
            refine any_skip' (i := 17) (by kernel_rfl) rfl rfl rfl (fun _ _ _ h => h) ?_
            refine any_skip' (i := 20) (by kernel_rfl) rfl rfl rfl (fun _ _ _ h => h) ?_
            refine any_skip' (i := 21) (by kernel_rfl) rfl rfl rfl (fun _ _ _ h => h) ?_
            refine any_skip' (i := 18) (by kernel_rfl) rfl rfl rfl (fun _ _ _ h => h) ?_
            try obtain rfl := SaveR.same hs2 hS2
            refine any_skip' (i := 19) (by kernel_rfl) rfl rfl rfl (fun _ _ _ h => h) ?_
            refine any_skip' (i := 22) (by kernel_rfl) rfl rfl rfl (fun _ _ _ h => h) ?_
            refine any_ro' (i := 23) (by kernel_rfl) rfl rfl (ro_pick rfl rfl) rfl (fun _ _ _ h => h) ?_
            refine any_ro' (i := 24) (by kernel_rfl) rfl rfl (ro_pick rfl rfl) rfl (fun _ _ _ h => h) ?_
            refine any_done (by kernel_rfl) ?_
            refine Then_normal ?_
            refine wp_condF rfl ?_
            refine wp_skip' ?_
            refine InBlock_normal ?_
            refine Then_normal ?_
            refine wp_region' ?_
            refine ops_ro' rfl (ro_add rfl rfl (wrap_inc (by omega))) rfl ?_
            refine ops_ro' rfl (ro_move rfl) rfl ?_
            refine ops_nil ?_
            refine Then_normal ?_
            refine back (m - 1) (by omega) (kept ⟨i + 1, by omega, rfl, rfl⟩ ?_ ?_ ?_)
            · exact (by repeat (first | exact Has.nil _ | refine Has.cons rfl ?_))
            · exact (by repeat (first | exact Has.nil _ | refine Has.cons rfl ?_))
            · exact (SubH.cons 0 rfl (SubH.nil _))
        · skip
          refine any_skip' (i := 9) (by kernel_rfl) rfl rfl rfl (fun _ _ _ h => h) ?_
          refine any_skip' (i := 10) (by kernel_rfl) rfl rfl rfl (fun _ _ _ h => h) ?_
          refine any_ro' (i := 11) (by kernel_rfl) rfl rfl (ro_pick rfl rfl) rfl (fun _ _ _ h => h) ?_
          refine any_ro' (i := 12) (by kernel_rfl) rfl rfl (ro_pick rfl rfl) rfl (fun _ _ _ h => h) ?_
          refine any_ro' (i := 13) (by kernel_rfl) rfl rfl (ro_move (v := .bool false) rfl) rfl (fun _ _ _ h => h) ?_
          refine any_ro' (i := 14) (by kernel_rfl) rfl rfl (ro_move rfl) rfl (fun _ _ _ h => h) ?_
          refine any_ro' (i := 15) (by kernel_rfl) rfl rfl (ro_ptrNeqNil Try.underlying24 rfl rfl rfl) rfl (fun _ _ _ h => h) ?_
          rw [isSome_map]
          refine any_split (i := 16) (by kernel_rfl) rfl rfl rfl rfl (fun _ _ _ h => h) (fun hg96 => ?_) (fun hg96 => ?_)
          · skip
            obtain ⟨s, rfl⟩ : ∃ s, o = some s := by cases o with
              | none => cases hg96
              | some s => exact ⟨s, rfl⟩
            obtain ⟨hW2, hS2, hN2⟩ := ho s rfl
            refine any_heap (H' := [tree s.1]) (fun w F s => s) ?_
            refine any_ro' (i := 17) (by kernel_rfl) rfl rfl (ro_move rfl) rfl (fun _ _ _ h => h) ?_
            refine any_ro' (i := 20) (by kernel_rfl) rfl rfl (ro_move rfl) rfl (fun _ _ _ h => h) ?_
            refine any_ro' (i := 21) (by kernel_rfl) rfl rfl (ro_toStr Try.underlying30 Try.underlying5 Try.underlying9 rfl (Vw.pick 0 rfl j1) rfl) rfl (fun _ _ _ h => h) ?_
            refine any_eff' (i := 18) (by kernel_rfl) rfl rfl (eff_callM (Pre := []) Try.call25 rfl rfl (Split.nil _) (save_spec (Tv.pick 0 rfl (tree_tv s.1)) hW2 hN2)) rfl ?_
            rintro _ H' ⟨_, ⟨s2, p98, c98, rfl, hs2, hsl2, rfl⟩, hH⟩
            simp only [List.cons_append, List.nil_append, List.eraseIdx_cons_zero, List.eraseIdx_cons_succ, List.set_cons_zero, List.set_cons_succ] at hH
            subst hH
            try obtain rfl := SaveR.same hs2 hS2
            refine any_eff' (i := 19) (by kernel_rfl) rfl rfl (eff_ro (ro_toStr Try.underlying30 Try.underlying5 Try.underlying9 rfl (Vw.pick 0 rfl Vw.row) rfl)) rfl ?_
            rintro _ _ ⟨rfl, rfl⟩
            refine any_ro' (i := 22) (by kernel_rfl) rfl rfl (ro_neqS rfl rfl (decide_eq_false (fun h => h rfl))) rfl (fun _ _ _ h => h) ?_
            refine any_ro' (i := 23) (by kernel_rfl) rfl rfl (ro_pick rfl rfl) rfl (fun _ _ _ h => h) ?_
            refine any_ro' (i := 24) (by kernel_rfl) rfl rfl (ro_pick rfl rfl) rfl (fun _ _ _ h => h) ?_
            refine any_done (by kernel_rfl) ?_
            refine Then_normal ?_
            refine wp_condF rfl ?_
            refine wp_skip' ?_
            refine InBlock_normal ?_
            refine Then_normal ?_
            refine wp_region' ?_
            refine ops_ro' rfl (ro_add rfl rfl (wrap_inc (by omega))) rfl ?_
            refine ops_ro' rfl (ro_move rfl) rfl ?_
            refine ops_nil ?_
            refine Then_normal ?_
            refine back (m - 1) (by omega) (kept ⟨i + 1, by omega, rfl, rfl⟩ ?_ ?_ ?_)
            · exact (by repeat (first | exact Has.nil _ | refine Has.cons rfl ?_))
            · exact (by repeat (first | exact Has.nil _ | refine Has.cons rfl ?_))
            · exact (SubH.cons 0 rfl (SubH.nil _))
          · skip
            refine any_skip' (i := 17) (by kernel_rfl) rfl rfl rfl (fun _ _ _ h => h) ?_
            refine any_skip' (i := 20) (by kernel_rfl) rfl rfl rfl (fun _ _ _ h => h) ?_
            refine any_skip' (i := 21) (by kernel_rfl) rfl rfl rfl (fun _ _ _ h => h) ?_
            refine any_skip' (i := 18) (by kernel_rfl) rfl rfl rfl (fun _ _ _ h => h) ?_
            try obtain rfl := SaveR.same hs2 hS2
            refine any_skip' (i := 19) (by kernel_rfl) rfl rfl rfl (fun _ _ _ h => h) ?_
            refine any_skip' (i := 22) (by kernel_rfl) rfl rfl rfl (fun _ _ _ h => h) ?_
            refine any_ro' (i := 23) (by kernel_rfl) rfl rfl (ro_pick rfl rfl) rfl (fun _ _ _ h => h) ?_
            refine any_ro' (i := 24) (by kernel_rfl) rfl rfl (ro_pick rfl rfl) rfl (fun _ _ _ h => h) ?_
            refine any_done (by kernel_rfl) ?_
            refine Then_normal ?_
            refine wp_condF rfl ?_
            refine wp_skip' ?_
            refine InBlock_normal ?_
            refine Then_normal ?_
            refine wp_region' ?_
            refine ops_ro' rfl (ro_add rfl rfl (wrap_inc (by omega))) rfl ?_
            refine ops_ro' rfl (ro_move rfl) rfl ?_
            refine ops_nil ?_
            refine Then_normal ?_
            refine back (m - 1) (by omega) (kept ⟨i + 1, by omega, rfl, rfl⟩ ?_ ?_ ?_)
            · exact (by repeat (first | exact Has.nil _ | refine Has.cons rfl ?_))
            · exact (by repeat (first | exact Has.nil _ | refine Has.cons rfl ?_))
            · exact (SubH.cons 0 rfl (SubH.nil _))
      · replace hc72 := of_decide_eq_false hc72
        refine wp_exit' ?_
        refine Then_exit ?_
        refine Then_exit ?_
        refine InBlock_here ?_
        refine Then_normal ?_
        refine wp_seq' ?_
        refine wp_region' ?_
        refine ops_eff' rfl (eff_call Try.call18 rfl rfl (by repeat (first | exact Split.nil _ | apply Split.cons 0 rfl | apply Split.cons 1 rfl | apply Split.cons 2 rfl | apply Split.cons 3 rfl | apply Split.cons 4 rfl | apply Split.cons 5 rfl | apply Split.cons 6 rfl | apply Split.cons 7 rfl | apply Split.cons 8 rfl | apply Split.cons 9 rfl | apply Split.cons 10 rfl | apply Split.cons 11 rfl)) (known15_spec)) rfl ?_
        rintro _ H' ⟨_, ⟨rfl, rfl⟩, hH⟩
        simp only [List.cons_append, List.nil_append, List.eraseIdx_cons_zero, List.eraseIdx_cons_succ, List.set_cons_zero, List.set_cons_succ] at hH
        subst hH
        refine ops_ro' rfl (ro_assign rfl) rfl ?_
        refine ops_nil ?_
        refine Then_normal ?_
        refine wp_ret' ?_
        refine doneS_pre2 (SubH.trans (show SubH _ [U] from (by repeat (first | exact SubH.nil _ | refine SubH.cons 0 rfl ?_ | refine SubH.cons 1 rfl ?_ | refine SubH.cons 2 rfl ?_ | refine SubH.cons 3 rfl ?_ | refine SubH.cons 4 rfl ?_ | refine SubH.cons 5 rfl ?_ | refine SubH.cons 6 rfl ?_ | refine SubH.cons 7 rfl ?_ | refine SubH.cons 8 rfl ?_ | refine SubH.cons 9 rfl ?_ | refine SubH.cons 10 rfl ?_ | refine SubH.cons 11 rfl ?_ | refine SubH.cons 12 rfl ?_ | refine SubH.cons 13 rfl ?_ | refine SubH.rown ?_))) hS) ?_
        refine' doneS_ret (res1 rfl rfl) ?_ ?_
        rotate_left 1
        exact ⟨rfl, rfl⟩
        exact SubH.refl _

end Go.Proofs.Ytbbmhppkhcodfaa
