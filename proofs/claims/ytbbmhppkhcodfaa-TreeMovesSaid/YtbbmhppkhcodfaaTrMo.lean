/-
  TreeMoves.
-/
import Derived.Test.YtbbmhppkhcodfaaNmQ
import Derived.Test.YtbbmhppkhcodfaaTrPw
import Derived.Test.YtbbmhppkhcodfaaSxFork
namespace Go.Proofs.Ytbbmhppkhcodfaa
open Go.Sx
set_option linter.unusedVariables false
set_option linter.unusedSimpArgs false
set_option maxRecDepth 100000
set_option maxHeartbeats 4000000

theorem ren_bad {t : Tr} {r : Nd} {fr to : List (List UInt8)} {t' : Tr} {r' : Nd} {e : Int} (h : RenR t r fr to t' r' e) (he : e ≠ 0) : t' = t := by
  rcases h with ⟨_, _, h, _⟩ | ⟨_, h2, _⟩
  · exact h
  · exact absurd h2 he
theorem ren_ok {t : Tr} {r : Nd} {fr to : List (List UInt8)} {t' : Tr} {r' : Nd} {e : Int} (h : RenR t r fr to t' r' e) (h0 : renE t.ns r fr to = 0) : e = 0 := by
  rcases h with ⟨h1, _⟩ | ⟨_, h2, _⟩
  · rw [h1, h0]
  · exact h2
theorem list_len {t : Tr} {r : Nd} {k : Int} {l : List Nm} {e : Int} (hW : Wf t r) (h : listO t.ns (byId t.ns k) = (l, e)) : l.length ≤ 140737488355328 := by
  have e1 : l = (listO t.ns (byId t.ns k)).1 := by rw [h]
  rw [e1]
  cases hb : byId t.ns k with
  | none => exact Nat.zero_le _
  | some x =>
    unfold listO
    simp only
    split
    · have h1 := hW.kd.few x (byId_some hb).1
      simp only [lsK, List.length_map]; omega
    · exact Nat.zero_le _
theorem renameK_spec {V : HProp} {t : Tr} {r : Nd} (hW : Wf t r) (q : Option Addr) (cq : Nat) (fr : List (List UInt8)) (hV1 : Vw V (.slice q fr.length cq) fr.length (txs fr)) (hcq : fr.length ≤ cq) (hlf : fr.length ≤ 100000) (q2 : Option Addr) (cq2 : Nat) (to : List (List UInt8)) (hV2 : Vw V (.slice q2 to.length cq2) to.length (txs to)) (hcq2 : to.length ≤ cq2) (hlt : to.length ≤ 100000) (hln : (lastN to).length ≤ 9223372036854775807) :
    Tri Try.prog 26 [t.v, .slice q fr.length cq, .slice q2 to.length cq2] [tree t, V] (fun v H' => ∃ K, (∃ t' r' e, v = .int .i64 e ∧ RenR t r fr to t' r' e ∧ Wf t' r' ∧ t'.tb = t.tb ∧ t'.next = t.next ∧ K = [tree t']) ∧ H' = K ++ [V]) :=
  tri_post (rename_spec hW q cq fr hV1 hcq hlf q2 cq2 to hV2 hcq2 hlt hln) fun v H' h => by
    obtain ⟨t', r', e, h1, h2, h3, h4, h5, h6⟩ := h
    exact ⟨[tree t'], ⟨t', r', e, h1, h2, h3, h4, h5, rfl⟩, h6⟩
theorem treemoves_run (V : HProp) (q : Option Addr) (cq : Nat) (l : List Av) (hL : Vw V (.slice q l.length cq) l.length (flat Av.cs l)) (hl : l.length ≤ 9223372036854775807) (hA : ∀ x ∈ l, x.Ok V) (fp : Option Addr) (fc : Nat) (fr : List (List UInt8)) (hF : Vw V (.slice fp fr.length fc) fr.length (txs fr)) (hfl : fr.length ≤ 9223372036854775807) (gp : Option Addr) (gc : Nat) (to : List (List UInt8)) (hG : Vw V (.slice gp to.length gc) to.length (txs to)) (hgl : to.length ≤ 9223372036854775807) :
    Tri Try.prog 5 [.slice q l.length cq, .slice fp fr.length fc, .slice gp to.length gc] [V] (fun v H' => v = .bool true ∧ H' = [V]) := by
  refine tri_of_wpS Try.func5 rfl Try.ntmps5 (by simp) ?_
  refine wp_seq' ?_
  refine wp_region' ?_
  refine ops_ro' rfl (ro_assign rfl) rfl ?_
  refine ops_nil ?_
  refine Then_normal ?_
  refine wp_seq' ?_
  refine wp_region' ?_
  refine ops_eff' rfl (eff_call Try.call10 rfl rfl (by repeat (first | exact Split.nil _ | apply Split.cons 0 rfl | apply Split.cons 1 rfl | apply Split.cons 2 rfl | apply Split.cons 3 rfl | apply Split.cons 4 rfl | apply Split.cons 5 rfl | apply Split.cons 6 rfl | apply Split.cons 7 rfl | apply Split.cons 8 rfl | apply Split.cons 9 rfl | apply Split.cons 10 rfl | apply Split.cons 11 rfl)) (new_spec)) rfl ?_
  rintro _ H' ⟨_, ⟨t0, r0, rfl, hn1, hn2, hW0, rfl⟩, hH⟩
  simp only [List.cons_append, List.nil_append, List.eraseIdx_cons_zero, List.eraseIdx_cons_succ, List.set_cons_zero, List.set_cons_succ] at hH
  subst hH
  obtain ⟨tb, htb0⟩ : ∃ tb, tb = t0.tb := ⟨_, rfl⟩
  rw [show Tr.v t0 = .pointer (some ⟨tb, 0, none⟩) from by rw [Tr.v, htb0]]
  refine ops_ro' rfl (ro_assign rfl) rfl ?_
  refine ops_nil ?_
  refine Then_normal ?_
  refine wp_seq' ?_
  refine wp_seq' ?_
  refine wp_region' ?_
  refine ops_ro' rfl (ro_move rfl) rfl ?_
  refine ops_ro' rfl (ro_ptrEqlNil Try.underlying24 rfl rfl rfl) rfl ?_
  refine ops_nil ?_
  refine Then_normal ?_
  refine wp_condF rfl ?_
  refine wp_skip' ?_
  refine Then_normal ?_
  refine wp_seq' ?_
  refine wp_seq' ?_
  refine wp_region' ?_
  refine ops_ro' rfl (ro_assign rfl) rfl ?_
  refine ops_nil ?_
  refine Then_normal ?_
  refine wp_block' ?_
  refine wp_loopK 5 (fun m Δ LL => ∃ (i : Nat) (t : Tr) (r : Nd), (i + m = l.length ∧ t.tb = tb ∧ t.next ≤ i + 1 ∧ i ≤ 20 ∧ Wf t r) ∧ Δ = [(8, .int .i64 (i : Nat))] ∧ LL = [tree t, V]) (m := l.length) (Has.cons (k := 0) rfl (Has.cons (k := 1) rfl (Has.cons (k := 2) rfl (Has.cons (k := 7) rfl (Has.nil _))))) (kept ⟨0, t0, r0, ⟨by omega, htb0.symm, by omega, by omega, hW0⟩, rfl, rfl⟩ (by repeat (first | exact Has.nil _ | refine Has.cons rfl ?_)) (by repeat (first | exact Has.nil _ | refine Has.cons rfl ?_)) (by repeat (first | exact SubH.nil _ | refine SubH.cons 0 rfl ?_ | refine SubH.cons 1 rfl ?_ | refine SubH.cons 2 rfl ?_ | refine SubH.cons 3 rfl ?_ | refine SubH.cons 4 rfl ?_ | refine SubH.cons 5 rfl ?_ | refine SubH.cons 6 rfl ?_ | refine SubH.cons 7 rfl ?_ | refine SubH.cons 8 rfl ?_ | refine SubH.cons 9 rfl ?_ | refine SubH.cons 10 rfl ?_ | refine SubH.cons 11 rfl ?_ | refine SubH.cons 12 rfl ?_ | refine SubH.cons 13 rfl ?_ | refine SubH.rown ?_))) ?_
  rintro m Δ LL ⟨i, t, r, ⟨hm, htb, hnx, hi15, hW⟩, rfl, rfl⟩
  simp only [List.cons_append, List.nil_append]
  refine wp_seq' ?_
  refine wp_seq' ?_
  refine wp_region' ?_
  refine ops_ro' rfl (ro_move rfl) rfl ?_
  refine ops_ro' rfl (ro_move rfl) rfl ?_
  refine ops_ro' rfl (ro_sliceLen Try.underlying45 rfl) rfl ?_
  refine ops_ro' rfl (ro_lss rfl rfl rfl) rfl ?_
  refine ops_split rfl rfl rfl (fun hg35 => ?_) (fun hg35 => ?_)
  · replace hg35 := of_decide_eq_true hg35
    have hi : i < l.length := by omega
    refine ops_ro' rfl (ro_move rfl) rfl ?_
    refine ops_ro' rfl (ro_lss rfl rfl rfl) rfl ?_
    refine ops_ro' rfl (ro_pick rfl rfl) rfl ?_
    refine ops_nil ?_
    refine Then_normal ?_
    refine wp_cond' rfl (fun hc38 => ?_) (fun hc38 => ?_)
    · replace hc38 := of_decide_eq_true hc38
      refine wp_skip' ?_
      refine Then_normal ?_
      refine wp_seq' ?_
      refine wp_block' ?_
      refine wp_cutK 1008 (fun Δ LL => ∃ (b5 : Nat) (q5 : Ap) (x : Av), (x.Ok V ∧ Vw V (.slice q5.bp (shortA x.c).b.length q5.bc) (shortA x.c).b.length (cel (shortA x.c).b) ∧ (shortA x.c).b.length ≤ q5.bc) ∧ Δ = [(9, .pointer (some ⟨b5, 0, none⟩))] ∧ LL = [own b5 (.cells ((shortA x.c).cs q5).toArray 47 (0, 0)), row 9 1 (.slice q5.pp ((shortA x.c).p).length q5.pc) ((shortA x.c).p).length (txs ((shortA x.c).p)), tree t, V]) (Has.cons (k := 0) rfl (Has.cons (k := 1) rfl (Has.cons (k := 2) rfl (Has.cons (k := 7) rfl (Has.cons (k := 8) rfl (Has.nil _)))))) ?_ ?_
      · have hi : i < l.length := by omega
        obtain ⟨x, hx⟩ : ∃ x, l[i]? = some x := ⟨_, List.getElem?_eq_getElem hi⟩
        have hok := hA x (List.mem_of_getElem? hx)
        refine wp_know (fun w F s => vw_ptr (Vw.pick (H := [_, V]) 1 rfl hL) s (by omega)) ?_
        rintro ⟨b1, o1, rfl⟩
        refine wp_region' ?_
        refine ops_ro' rfl (ro_move rfl) rfl ?_
        refine ops_ro' rfl (ro_move rfl) rfl ?_
        refine ops_ro' rfl (ro_indexSlice sl45 rfl rfl rfl (by omega)) rfl ?_
        refine ops_ro' rfl (ro_loadA ag47 rfl (RdN.of_pick 1 rfl (RdN.elem (vw_rdn hL) Av.len hx)) rfl) rfl ?_
        refine ops_eff' rfl (eff_call Try.call19 rfl rfl (by repeat (first | exact Split.nil _ | apply Split.cons 0 rfl | apply Split.cons 1 rfl | apply Split.cons 2 rfl | apply Split.cons 3 rfl | apply Split.cons 4 rfl | apply Split.cons 5 rfl | apply Split.cons 6 rfl | apply Split.cons 7 rfl | apply Split.cons 8 rfl | apply Split.cons 9 rfl | apply Split.cons 10 rfl | apply Split.cons 11 rfl)) (short15_spec V x.c x.q hok)) rfl ?_
        rintro _ H' ⟨_, ⟨q5, rfl, hb5, hbc5, rfl⟩, hH⟩
        simp only [List.cons_append, List.nil_append, List.eraseIdx_cons_zero, List.eraseIdx_cons_succ, List.set_cons_zero, List.set_cons_succ] at hH
        subst hH
        refine ops_eff' rfl (eff_alloc z47) rfl ?_
        rintro _ _ ⟨b9, rfl, rfl⟩
        refine ops_eff0 rfl (eff_storeA 0 ag47 rfl rfl rfl rfl rfl (Nat.le_of_ble_eq_true rfl) (warm_zero _)) rfl ?_
        rintro _ _ rfl
        simp only [List.set_cons_zero, List.set_cons_succ]
        refine ops_nil ?_
        refine Then_normal ?_
        refine over_cut (kept ⟨b9, q5, x, ⟨hok, hb5, hbc5⟩, rfl, rfl⟩ ?_ ?_ ?_)
        · exact (by repeat (first | exact Has.nil _ | refine Has.cons rfl ?_))
        · exact (by repeat (first | exact Has.nil _ | refine Has.cons rfl ?_))
        · exact (SubH.cons 0 rfl (SubH.cons 1 rfl (SubH.cons 2 rfl (SubH.cons 1 rfl (SubH.nil _)))))
      · rintro Δ LL ⟨b5, q5, x, ⟨hok, hb5, hbc5⟩, rfl, rfl⟩
        simp only [List.cons_append, List.nil_append]
        refine wp_seq' ?_
        have hp5 := shortA_p x.c
        have hb6 := shortA_b x.c
        have hln : (lastN (shortA x.c).p).length ≤ 32 := lastN_le few2_le
        refine wp_know (fun w F s => row_caps 1 rfl s) ?_
        intro hcp
        refine wp_region' ?_
        refine ops_ro' rfl (ro_move rfl) rfl ?_
        refine ops_ro' rfl (ro_fieldAddr fa47_2 rfl) rfl ?_
        refine ops_ro' rfl (ro_load sc29 rfl (Rd.pick 0 rfl (Rd.own rfl))) rfl ?_
        refine ops_ro' rfl (ro_fieldAddr fa47_4 rfl) rfl ?_
        refine ops_ro' rfl (ro_load sc4 rfl (Rd.pick 0 rfl (Rd.own rfl))) rfl ?_
        refine ops_eff' rfl (eff_call Try.call11 rfl rfl (by repeat (first | exact Split.nil _ | apply Split.cons 0 rfl | apply Split.cons 1 rfl | apply Split.cons 2 rfl | apply Split.cons 3 rfl | apply Split.cons 4 rfl | apply Split.cons 5 rfl | apply Split.cons 6 rfl | apply Split.cons 7 rfl | apply Split.cons 8 rfl | apply Split.cons 9 rfl | apply Split.cons 10 rfl | apply Split.cons 11 rfl)) (tri_argc htb (make_spec (V := row 9 1 (.slice q5.pp ((shortA x.c).p).length q5.pc) ((shortA x.c).p).length (txs ((shortA x.c).p))) hW (by omega) q5.pp q5.pc (shortA x.c).p Vw.row hcp (by omega) (by omega) (shortA x.c).dir))) rfl ?_
        rintro _ H' ⟨_, ⟨t1, r1, i1, e1, rfl, hR1, hW1, rfl⟩, hH⟩
        simp only [List.cons_append, List.nil_append, List.eraseIdx_cons_zero, List.eraseIdx_cons_succ, List.set_cons_zero, List.set_cons_succ] at hH
        subst hH
        obtain ⟨hnx1, ht1⟩ := make_nx hR1
        refine ops_nil ?_
        refine Then_normal ?_
        refine wp_region' ?_
        refine ops_ro' rfl (ro_move rfl) rfl ?_
        refine ops_ro' rfl (ro_move rfl) rfl ?_
        refine ops_ro' rfl (ro_fieldAddr fa47_7 rfl) rfl ?_
        refine ops_ro' rfl (ro_load sc30 rfl (Rd.pick 2 rfl (Rd.own rfl))) rfl ?_
        refine ops_eff' rfl (eff_call Try.call14 rfl rfl (by repeat (first | exact Split.nil _ | apply Split.cons 0 rfl | apply Split.cons 1 rfl | apply Split.cons 2 rfl | apply Split.cons 3 rfl | apply Split.cons 4 rfl | apply Split.cons 5 rfl | apply Split.cons 6 rfl | apply Split.cons 7 rfl | apply Split.cons 8 rfl | apply Split.cons 9 rfl | apply Split.cons 10 rfl | apply Split.cons 11 rfl)) (tri_argc (by rw [ht1, htb]) (write_spec hW1 (i : Int) 0 (by omega) q5.bp q5.bc (shortA x.c).b hb5 (by omega)))) rfl ?_
        rintro _ H' ⟨_, ⟨t2, e2, rfl, hR2, rfl⟩, hH⟩
        simp only [List.cons_append, List.nil_append, List.eraseIdx_cons_zero, List.eraseIdx_cons_succ, List.set_cons_zero, List.set_cons_succ] at hH
        subst hH
        obtain ⟨hW2, hnx2, ht2, _⟩ := write_wf hW1 hR2
        refine ops_nil ?_
        refine InBlock_normal ?_
        refine Then_normal ?_
        refine wp_region' ?_
        refine ops_ro' rfl (ro_move rfl) rfl ?_
        refine ops_ro' rfl (ro_add rfl rfl (wrap_inc (by omega))) rfl ?_
        refine ops_ro' rfl (ro_assign rfl) rfl ?_
        refine ops_nil ?_
        refine Then_normal ?_
        refine back (m - 1) (by omega) (kept ⟨i + 1, t2, r1, ⟨by omega, by rw [ht2, ht1, htb], by omega, by omega, hW2⟩, rfl, rfl⟩ ?_ ?_ ?_)
        · exact (by repeat (first | exact Has.nil _ | refine Has.cons rfl ?_))
        · exact (by repeat (first | exact Has.nil _ | refine Has.cons rfl ?_))
        · exact (SubH.cons 0 rfl (SubH.cons 0 rfl (SubH.nil _)))
    · replace hc38 := of_decide_eq_false hc38
      refine wp_exit' ?_
      refine Then_exit ?_
      refine Then_exit ?_
      refine InBlock_here ?_
      refine Then_normal ?_
      refine wp_seq' ?_
      refine wp_region' ?_
      refine ops_ro' rfl (ro_move rfl) rfl ?_
      refine ops_eff' rfl (eff_call Try.call22 rfl rfl (by repeat (first | exact Split.nil _ | apply Split.cons 0 rfl | apply Split.cons 1 rfl | apply Split.cons 2 rfl | apply Split.cons 3 rfl | apply Split.cons 4 rfl | apply Split.cons 5 rfl | apply Split.cons 6 rfl | apply Split.cons 7 rfl | apply Split.cons 8 rfl | apply Split.cons 9 rfl | apply Split.cons 10 rfl | apply Split.cons 11 rfl)) (kFew V fp fc fr hF 5 32 (by omega) hfl)) rfl ?_
      rintro _ H' ⟨_, ⟨_, ⟨p58, c58, rfl, rfl⟩, rfl⟩, hH⟩
      simp only [List.cons_append, List.nil_append, List.eraseIdx_cons_zero, List.eraseIdx_cons_succ, List.set_cons_zero, List.set_cons_succ] at hH
      subst hH
      have hFl : (few2 (fr.take 5) 32).length ≤ 5 := by simp only [few2, List.length_map, List.length_take]; omega
      have hFn : (lastN (few2 (fr.take 5) 32)).length ≤ 32 := lastN_le few2_le
      generalize few2 (fr.take 5) 32 = F at *
      refine ops_ro' rfl (ro_assign rfl) rfl ?_
      refine ops_nil ?_
      refine Then_normal ?_
      refine wp_seq' ?_
      refine wp_region' ?_
      refine ops_ro' rfl (ro_move rfl) rfl ?_
      refine ops_eff' rfl (eff_call Try.call22 rfl rfl (by repeat (first | exact Split.nil _ | apply Split.cons 0 rfl | apply Split.cons 1 rfl | apply Split.cons 2 rfl | apply Split.cons 3 rfl | apply Split.cons 4 rfl | apply Split.cons 5 rfl | apply Split.cons 6 rfl | apply Split.cons 7 rfl | apply Split.cons 8 rfl | apply Split.cons 9 rfl | apply Split.cons 10 rfl | apply Split.cons 11 rfl)) (kFew V gp gc to hG 5 32 (by omega) hgl)) rfl ?_
      rintro _ H' ⟨_, ⟨_, ⟨p60, c60, rfl, rfl⟩, rfl⟩, hH⟩
      simp only [List.cons_append, List.nil_append, List.eraseIdx_cons_zero, List.eraseIdx_cons_succ, List.set_cons_zero, List.set_cons_succ] at hH
      subst hH
      have hGl : (few2 (to.take 5) 32).length ≤ 5 := by simp only [few2, List.length_map, List.length_take]; omega
      have hGn : (lastN (few2 (to.take 5) 32)).length ≤ 32 := lastN_le few2_le
      generalize few2 (to.take 5) 32 = G at *
      refine ops_ro' rfl (ro_assign rfl) rfl ?_
      refine ops_nil ?_
      refine Then_normal ?_
      refine wp_seq' ?_
      have hdl := wf_dl hW
      have hdl2 : ∀ x ∈ t.ns, x.data.length ≤ 100000000 := fun x hx => by have := hdl x hx; omega
      refine wp_region' ?_
      refine ops_ro' rfl (ro_move rfl) rfl ?_
      refine ops_ro' rfl (ro_move rfl) rfl ?_
      refine ops_eff' rfl (eff_callM (Pre := []) Try.call23 rfl rfl (Split.nil _) (tri_argc htb (look_spec (by first | exact Tv.pick 0 rfl (tree_tv t) | exact Tv.pick 1 rfl (tree_tv t) | exact Tv.pick 2 rfl (tree_tv t) | exact Tv.pick 3 rfl (tree_tv t) | exact Tv.pick 4 rfl (tree_tv t) | exact Tv.pick 5 rfl (tree_tv t) | exact Tv.pick 6 rfl (tree_tv t)) hW _ _ F (by first | exact (Vw.pick 0 rfl Vw.row) | exact (Vw.pick 1 rfl Vw.row) | exact (Vw.pick 2 rfl Vw.row) | exact (Vw.pick 3 rfl Vw.row) | exact (Vw.pick 4 rfl Vw.row) | exact (Vw.pick 5 rfl Vw.row) | exact (Vw.pick 6 rfl Vw.row) | exact (Vw.pick 7 rfl Vw.row) | exact Vw.pick 0 rfl Vw.row | exact Vw.pick 1 rfl Vw.row | exact Vw.pick 2 rfl Vw.row | exact Vw.pick 3 rfl Vw.row | exact Vw.pick 4 rfl Vw.row | exact Vw.pick 5 rfl Vw.row | exact Vw.pick 6 rfl Vw.row | exact Vw.pick 7 rfl Vw.row | exact Vw.nil _ | exact Vw.empty _ _) (by omega)))) rfl ?_
      rintro _ H' ⟨_, ⟨rfl, rfl⟩, hH⟩
      simp only [List.cons_append, List.nil_append, List.eraseIdx_cons_zero, List.eraseIdx_cons_succ, List.set_cons_zero, List.set_cons_succ] at hH
      subst hH
      obtain ⟨⟨z1, e1⟩, hz1⟩ : ∃ z : Int × Int, lookO (fnd t.ns r F) = z := ⟨_, rfl⟩
      rw [hz1]
      dsimp only
      refine ops_ro' rfl (ro_move rfl) rfl ?_
      refine ops_ro' rfl (ro_extract rfl rfl) rfl ?_
      refine ops_ro' rfl (ro_extract rfl rfl) rfl ?_
      refine ops_ro' rfl (ro_assign rfl) rfl ?_
      refine ops_ro' rfl (ro_assign rfl) rfl ?_
      refine ops_nil ?_
      refine Then_normal ?_
      refine wp_seq' ?_
      refine wp_region' ?_
      refine ops_ro' rfl (ro_move rfl) rfl ?_
      refine ops_ro' rfl (ro_move rfl) rfl ?_
      refine ops_eff' rfl (eff_callM (Pre := []) Try.call23 rfl rfl (Split.nil _) (tri_argc htb (look_spec (by first | exact Tv.pick 0 rfl (tree_tv t) | exact Tv.pick 1 rfl (tree_tv t) | exact Tv.pick 2 rfl (tree_tv t) | exact Tv.pick 3 rfl (tree_tv t) | exact Tv.pick 4 rfl (tree_tv t) | exact Tv.pick 5 rfl (tree_tv t) | exact Tv.pick 6 rfl (tree_tv t)) hW _ _ G (by first | exact (Vw.pick 0 rfl Vw.row) | exact (Vw.pick 1 rfl Vw.row) | exact (Vw.pick 2 rfl Vw.row) | exact (Vw.pick 3 rfl Vw.row) | exact (Vw.pick 4 rfl Vw.row) | exact (Vw.pick 5 rfl Vw.row) | exact (Vw.pick 6 rfl Vw.row) | exact (Vw.pick 7 rfl Vw.row) | exact Vw.pick 0 rfl Vw.row | exact Vw.pick 1 rfl Vw.row | exact Vw.pick 2 rfl Vw.row | exact Vw.pick 3 rfl Vw.row | exact Vw.pick 4 rfl Vw.row | exact Vw.pick 5 rfl Vw.row | exact Vw.pick 6 rfl Vw.row | exact Vw.pick 7 rfl Vw.row | exact Vw.nil _ | exact Vw.empty _ _) (by omega)))) rfl ?_
      rintro _ H' ⟨_, ⟨rfl, rfl⟩, hH⟩
      simp only [List.cons_append, List.nil_append, List.eraseIdx_cons_zero, List.eraseIdx_cons_succ, List.set_cons_zero, List.set_cons_succ] at hH
      subst hH
      obtain ⟨⟨z2, e2⟩, hz2⟩ : ∃ z : Int × Int, lookO (fnd t.ns r G) = z := ⟨_, rfl⟩
      rw [hz2]
      dsimp only
      refine ops_ro' rfl (ro_move rfl) rfl ?_
      refine ops_ro' rfl (ro_extract rfl rfl) rfl ?_
      refine ops_ro' rfl (ro_extract rfl rfl) rfl ?_
      refine ops_ro' rfl (ro_assign rfl) rfl ?_
      refine ops_ro' rfl (ro_assign rfl) rfl ?_
      refine ops_nil ?_
      refine Then_normal ?_
      refine wp_cutK 1015 (fun Δ LL => ∃ (b14 : Nat) (a3 : At) (e3 : Int), (attO (byId t.ns z1) = (a3, e3)) ∧ Δ = [(14, .pointer (some ⟨b14, 0, none⟩)), (15, .int .i64 e3)] ∧ LL = [own b14 (.cells (a3).cs.toArray 40 (0, 0)), row 9 1 (.slice p60 (G).length c60) (G).length (txs (G)), row 9 1 (.slice p58 (F).length c58) (F).length (txs (F)), tree t, V]) (Has.cons (k := 1) rfl (Has.cons (k := 2) rfl (Has.cons (k := 7) rfl (Has.cons (k := 10) rfl (Has.cons (k := 11) rfl (Has.cons (k := 13) rfl (Has.nil _))))))) ?_ ?_
      · refine wp_region' ?_
        refine ops_ro' rfl (ro_move rfl) rfl ?_
        refine ops_ro' rfl (ro_move rfl) rfl ?_
        refine ops_eff' rfl (eff_callM (Pre := []) Try.call17 rfl rfl (Split.nil _) (tri_argc htb (attrs_spec (by first | exact Tv.pick 0 rfl (tree_tv t) | exact Tv.pick 1 rfl (tree_tv t) | exact Tv.pick 2 rfl (tree_tv t) | exact Tv.pick 3 rfl (tree_tv t) | exact Tv.pick 4 rfl (tree_tv t) | exact Tv.pick 5 rfl (tree_tv t) | exact Tv.pick 6 rfl (tree_tv t)) z1 hdl2))) rfl ?_
        rintro _ H' ⟨_, ⟨rfl, rfl⟩, hH⟩
        simp only [List.cons_append, List.nil_append, List.eraseIdx_cons_zero, List.eraseIdx_cons_succ, List.set_cons_zero, List.set_cons_succ] at hH
        subst hH
        obtain ⟨⟨a3, e3⟩, hz3⟩ : ∃ z : At × Int, attO (byId t.ns z1) = z := ⟨_, rfl⟩
        rw [hz3]
        dsimp only
        refine ops_ro' rfl (ro_move rfl) rfl ?_
        refine ops_ro' rfl (ro_extract rfl rfl) rfl ?_
        refine ops_ro' rfl (ro_extract rfl rfl) rfl ?_
        refine ops_eff' rfl (eff_alloc z40) rfl ?_
        rintro _ _ ⟨b14, rfl, rfl⟩
        refine ops_eff0 rfl (eff_storeA 0 ag40 rfl rfl rfl rfl rfl (Nat.le_of_ble_eq_true rfl) (warm_zero _)) rfl ?_
        rintro _ _ rfl
        simp only [List.set_cons_zero, List.set_cons_succ]
        refine ops_ro' rfl (ro_assign rfl) rfl ?_
        refine ops_nil ?_
        refine Then_normal ?_
        refine over_cut (kept ⟨b14, a3, e3, rfl, rfl, rfl⟩ ?_ ?_ ?_)
        · exact (by repeat (first | exact Has.nil _ | refine Has.cons rfl ?_))
        · exact (by repeat (first | exact Has.nil _ | refine Has.cons rfl ?_))
        · exact (SubH.cons 0 rfl (SubH.cons 0 rfl (SubH.cons 1 rfl (SubH.cons 1 rfl (SubH.cons 0 rfl (SubH.nil _))))))
      · rintro Δ LL ⟨b14, a3, e3, hz3, rfl, rfl⟩
        simp only [List.cons_append, List.nil_append]
        refine wp_seq' ?_
        refine wp_region' ?_
        refine ops_ro' rfl (ro_move rfl) rfl ?_
        refine ops_ro' rfl (ro_move rfl) rfl ?_
        refine ops_eff' rfl (eff_callM (Pre := []) Try.call24 rfl rfl (Split.nil _) (tri_argc htb (list_spec (by first | exact Tv.pick 0 rfl (tree_tv t) | exact Tv.pick 1 rfl (tree_tv t) | exact Tv.pick 2 rfl (tree_tv t) | exact Tv.pick 3 rfl (tree_tv t) | exact Tv.pick 4 rfl (tree_tv t) | exact Tv.pick 5 rfl (tree_tv t) | exact Tv.pick 6 rfl (tree_tv t)) hW z1 hdl2))) rfl ?_
        rintro _ H' ⟨_, ⟨p82, c82, rfl, rfl⟩, hH⟩
        simp only [List.cons_append, List.nil_append, List.eraseIdx_cons_zero, List.eraseIdx_cons_succ, List.set_cons_zero, List.set_cons_succ] at hH
        subst hH
        obtain ⟨⟨l4, e4⟩, hz4⟩ : ∃ z : List Nm × Int, listO t.ns (byId t.ns z1) = z := ⟨_, rfl⟩
        rw [hz4]
        dsimp only
        refine ops_ro' rfl (ro_move rfl) rfl ?_
        refine ops_ro' rfl (ro_extract rfl rfl) rfl ?_
        refine ops_ro' rfl (ro_extract rfl rfl) rfl ?_
        refine ops_ro' rfl (ro_assign rfl) rfl ?_
        refine ops_ro' rfl (ro_assign rfl) rfl ?_
        refine ops_nil ?_
        refine Then_normal ?_
        refine wp_seq' ?_
        refine wp_region' ?_
        refine ops_ro' rfl (ro_move rfl) rfl ?_
        refine ops_eff' rfl (eff_callM (Pre := []) Try.call25 rfl rfl (Split.nil _) (tri_argc htb (save_spec (by first | exact Tv.pick 0 rfl (tree_tv t) | exact Tv.pick 1 rfl (tree_tv t) | exact Tv.pick 2 rfl (tree_tv t) | exact Tv.pick 3 rfl (tree_tv t) | exact Tv.pick 4 rfl (tree_tv t) | exact Tv.pick 5 rfl (tree_tv t) | exact Tv.pick 6 rfl (tree_tv t)) hW (by omega)))) rfl ?_
        rintro _ H' ⟨_, ⟨sb, p86, c86, rfl, hS1, hsl, rfl⟩, hH⟩
        simp only [List.cons_append, List.nil_append, List.eraseIdx_cons_zero, List.eraseIdx_cons_succ, List.set_cons_zero, List.set_cons_succ] at hH
        subst hH
        refine ops_ro' rfl (ro_toStr Try.underlying30 Try.underlying5 Try.underlying9 rfl (Vw.pick 0 rfl Vw.row) rfl) rfl ?_
        refine ops_ro' rfl (ro_assign rfl) rfl ?_
        refine ops_nil ?_
        refine Then_normal ?_
        refine wp_seq' ?_
        refine wp_sub' (L := [tree t, row 9 1 (.slice p58 (F).length c58) (F).length (txs (F)), row 9 1 (.slice p60 (G).length c60) (G).length (txs (G)), row 93 8 (.slice p82 (l4).length c82) (l4).length (flat Nm.cs (l4)), own b14 (.cells (a3).cs.toArray 40 (0, 0)), V]) (by repeat (first | exact SubH.nil _ | refine SubH.cons 0 rfl ?_ | refine SubH.cons 1 rfl ?_ | refine SubH.cons 2 rfl ?_ | refine SubH.cons 3 rfl ?_ | refine SubH.cons 4 rfl ?_ | refine SubH.cons 5 rfl ?_ | refine SubH.cons 6 rfl ?_ | refine SubH.cons 7 rfl ?_ | refine SubH.cons 8 rfl ?_ | refine SubH.cons 9 rfl ?_ | refine SubH.cons 10 rfl ?_ | refine SubH.cons 11 rfl ?_ | refine SubH.cons 12 rfl ?_ | refine SubH.cons 13 rfl ?_ | refine SubH.rown ?_)) ?_
        refine wp_know (fun w F s => row_caps 1 rfl s) ?_
        intro hcF
        refine wp_know (fun w F s => row_caps 2 rfl s) ?_
        intro hcG
        refine wp_region' ?_
        refine ops_ro' rfl (ro_move rfl) rfl ?_
        refine ops_ro' rfl (ro_move rfl) rfl ?_
        refine ops_ro' rfl (ro_move rfl) rfl ?_
        refine ops_eff' rfl (eff_callM (Pre := [_]) Try.call26 rfl rfl (by repeat (first | exact Split.nil _ | apply Split.cons 0 rfl | apply Split.cons 1 rfl | apply Split.cons 2 rfl | apply Split.cons 3 rfl | apply Split.cons 4 rfl | apply Split.cons 5 rfl | apply Split.cons 6 rfl | apply Split.cons 7 rfl | apply Split.cons 8 rfl | apply Split.cons 9 rfl | apply Split.cons 10 rfl | apply Split.cons 11 rfl)) (tri_argc htb (renameK_spec hW _ _ F (by first | exact (Vw.pick 0 rfl Vw.row) | exact (Vw.pick 1 rfl Vw.row) | exact (Vw.pick 2 rfl Vw.row) | exact (Vw.pick 3 rfl Vw.row) | exact (Vw.pick 4 rfl Vw.row) | exact (Vw.pick 5 rfl Vw.row) | exact (Vw.pick 6 rfl Vw.row) | exact (Vw.pick 7 rfl Vw.row) | exact Vw.pick 0 rfl Vw.row | exact Vw.pick 1 rfl Vw.row | exact Vw.pick 2 rfl Vw.row | exact Vw.pick 3 rfl Vw.row | exact Vw.pick 4 rfl Vw.row | exact Vw.pick 5 rfl Vw.row | exact Vw.pick 6 rfl Vw.row | exact Vw.pick 7 rfl Vw.row | exact Vw.nil _ | exact Vw.empty _ _) hcF (by omega) _ _ G (by first | exact (Vw.pick 0 rfl Vw.row) | exact (Vw.pick 1 rfl Vw.row) | exact (Vw.pick 2 rfl Vw.row) | exact (Vw.pick 3 rfl Vw.row) | exact (Vw.pick 4 rfl Vw.row) | exact (Vw.pick 5 rfl Vw.row) | exact (Vw.pick 6 rfl Vw.row) | exact (Vw.pick 7 rfl Vw.row) | exact Vw.pick 0 rfl Vw.row | exact Vw.pick 1 rfl Vw.row | exact Vw.pick 2 rfl Vw.row | exact Vw.pick 3 rfl Vw.row | exact Vw.pick 4 rfl Vw.row | exact Vw.pick 5 rfl Vw.row | exact Vw.pick 6 rfl Vw.row | exact Vw.pick 7 rfl Vw.row | exact Vw.nil _ | exact Vw.empty _ _) hcG (by omega) (by omega)))) rfl ?_
        rintro _ H' ⟨_, ⟨t3, r3, e5, rfl, hR, hW3, ht3, hn3, rfl⟩, hH⟩
        simp only [List.cons_append, List.nil_append, List.eraseIdx_cons_zero, List.eraseIdx_cons_succ, List.set_cons_zero, List.set_cons_succ] at hH
        subst hH
        refine ops_ro' rfl (ro_assign rfl) rfl ?_
        refine ops_nil ?_
        refine Then_normal ?_
        refine wp_seq' ?_
        refine wp_seq' ?_
        refine wp_region' ?_
        refine ops_ro' rfl (ro_move rfl) rfl ?_
        refine ops_ro' rfl (ro_neq rfl rfl rfl) rfl ?_
        refine ops_nil ?_
        refine Then_normal ?_
        refine wp_cond' rfl (fun hc93 => ?_) (fun hc93 => ?_)
        · replace hc93 := of_decide_eq_true hc93
          obtain rfl : t3 = t := ren_bad hR (by omega)
          refine wp_seq' ?_
          refine wp_region' ?_
          refine ops_ro' rfl (ro_move rfl) rfl ?_
          refine ops_eff' rfl (eff_callM (Pre := []) Try.call25 rfl rfl (Split.nil _) (tri_argc (by first | exact htb | rw [ht3, htb]) (save_spec (by first | exact Tv.pick 0 rfl (tree_tv t3) | exact Tv.pick 1 rfl (tree_tv t3) | exact Tv.pick 2 rfl (tree_tv t3) | exact Tv.pick 3 rfl (tree_tv t3) | exact Tv.pick 4 rfl (tree_tv t3) | exact Tv.pick 5 rfl (tree_tv t3) | exact Tv.pick 6 rfl (tree_tv t3)) (by first | exact hW3 | exact hW) (by omega)))) rfl ?_
          rintro _ H' ⟨_, ⟨sb2, p95, c95, rfl, hS2, hsl2, rfl⟩, hH⟩
          simp only [List.cons_append, List.nil_append, List.eraseIdx_cons_zero, List.eraseIdx_cons_succ, List.set_cons_zero, List.set_cons_succ] at hH
          subst hH
          obtain rfl := save_co hW hW3 (fun c => Iff.rfl) rfl hS1 hS2
          refine ops_ro' rfl (ro_toStr Try.underlying30 Try.underlying5 Try.underlying9 rfl (Vw.pick 0 rfl Vw.row) rfl) rfl ?_
          refine ops_ro' rfl (ro_move rfl) rfl ?_
          refine ops_ro' rfl (ro_eqlS rfl rfl (decide_eq_true rfl)) rfl ?_
          refine ops_ro' rfl (ro_move (v := .bool true) rfl) rfl ?_
          refine ops_eff' rfl (eff_call Try.call18 rfl rfl (by repeat (first | exact Split.nil _ | apply Split.cons 0 rfl | apply Split.cons 1 rfl | apply Split.cons 2 rfl | apply Split.cons 3 rfl | apply Split.cons 4 rfl | apply Split.cons 5 rfl | apply Split.cons 6 rfl | apply Split.cons 7 rfl | apply Split.cons 8 rfl | apply Split.cons 9 rfl | apply Split.cons 10 rfl | apply Split.cons 11 rfl)) (known15_spec)) rfl ?_
          rintro _ H' ⟨_, ⟨rfl, rfl⟩, hH⟩
          simp only [List.cons_append, List.nil_append, List.eraseIdx_cons_zero, List.eraseIdx_cons_succ, List.set_cons_zero, List.set_cons_succ] at hH
          subst hH
          refine ops_ro' rfl (ro_pick rfl rfl) rfl ?_
          refine ops_ro' rfl (ro_assign rfl) rfl ?_
          refine ops_nil ?_
          refine Then_normal ?_
          refine wp_ret' ?_
          refine Then_ret ?_
          refine' doneS_ret (res1 rfl rfl) ?_ ?_
          rotate_left 1
          exact ⟨rfl, rfl⟩
          exact (SubH.cons 6 rfl (SubH.nil _))
        · replace hc93 := of_decide_eq_false hc93
          obtain ⟨x, hRF⟩ := ren_facts hW hW3 hR (fun h => h.1 (by omega))
          obtain ⟨rfl, rfl⟩ : z1 = x.id ∧ e1 = 0 := by have h := hRF.l1; rw [hz1] at h; exact ⟨congrArg Prod.fst h, congrArg Prod.snd h⟩
          obtain ⟨rfl, rfl⟩ : z2 = 0 ∧ e2 = 22 := by have h := hRF.l2; rw [hz2] at h; exact ⟨congrArg Prod.fst h, congrArg Prod.snd h⟩
          refine wp_skip' ?_
          refine Then_normal ?_
          refine wp_seq' ?_
          have hdl3 := wf_dl hW3
          have hdl4 : ∀ x ∈ t3.ns, x.data.length ≤ 100000000 := fun x hx => by have := hdl3 x hx; omega
          refine wp_region' ?_
          refine ops_ro' rfl (ro_move rfl) rfl ?_
          refine ops_ro' rfl (ro_move rfl) rfl ?_
          refine ops_eff' rfl (eff_callM (Pre := []) Try.call23 rfl rfl (Split.nil _) (tri_argc (by rw [ht3, htb]) (look_spec (by first | exact Tv.pick 0 rfl (tree_tv t3) | exact Tv.pick 1 rfl (tree_tv t3) | exact Tv.pick 2 rfl (tree_tv t3) | exact Tv.pick 3 rfl (tree_tv t3) | exact Tv.pick 4 rfl (tree_tv t3) | exact Tv.pick 5 rfl (tree_tv t3) | exact Tv.pick 6 rfl (tree_tv t3)) hW3 _ _ G (by first | exact (Vw.pick 0 rfl Vw.row) | exact (Vw.pick 1 rfl Vw.row) | exact (Vw.pick 2 rfl Vw.row) | exact (Vw.pick 3 rfl Vw.row) | exact (Vw.pick 4 rfl Vw.row) | exact (Vw.pick 5 rfl Vw.row) | exact (Vw.pick 6 rfl Vw.row) | exact (Vw.pick 7 rfl Vw.row) | exact Vw.pick 0 rfl Vw.row | exact Vw.pick 1 rfl Vw.row | exact Vw.pick 2 rfl Vw.row | exact Vw.pick 3 rfl Vw.row | exact Vw.pick 4 rfl Vw.row | exact Vw.pick 5 rfl Vw.row | exact Vw.pick 6 rfl Vw.row | exact Vw.pick 7 rfl Vw.row | exact Vw.nil _ | exact Vw.empty _ _) (by omega)))) rfl ?_
          rintro _ H' ⟨_, ⟨rfl, rfl⟩, hH⟩
          simp only [List.cons_append, List.nil_append, List.eraseIdx_cons_zero, List.eraseIdx_cons_succ, List.set_cons_zero, List.set_cons_succ] at hH
          subst hH
          rw [hRF.l3]
          dsimp only
          refine ops_ro' rfl (ro_move rfl) rfl ?_
          refine ops_ro' rfl (ro_extract rfl rfl) rfl ?_
          refine ops_ro' rfl (ro_extract rfl rfl) rfl ?_
          refine ops_ro' rfl (ro_assign rfl) rfl ?_
          refine ops_ro' rfl (ro_assign rfl) rfl ?_
          refine ops_nil ?_
          refine Then_normal ?_
          refine wp_seq' ?_
          refine wp_region' ?_
          refine ops_ro' rfl (ro_move rfl) rfl ?_
          refine ops_ro' rfl (ro_move rfl) rfl ?_
          refine ops_eff' rfl (eff_callM (Pre := []) Try.call23 rfl rfl (Split.nil _) (tri_argc (by rw [ht3, htb]) (look_spec (by first | exact Tv.pick 0 rfl (tree_tv t3) | exact Tv.pick 1 rfl (tree_tv t3) | exact Tv.pick 2 rfl (tree_tv t3) | exact Tv.pick 3 rfl (tree_tv t3) | exact Tv.pick 4 rfl (tree_tv t3) | exact Tv.pick 5 rfl (tree_tv t3) | exact Tv.pick 6 rfl (tree_tv t3)) hW3 _ _ F (by first | exact (Vw.pick 0 rfl Vw.row) | exact (Vw.pick 1 rfl Vw.row) | exact (Vw.pick 2 rfl Vw.row) | exact (Vw.pick 3 rfl Vw.row) | exact (Vw.pick 4 rfl Vw.row) | exact (Vw.pick 5 rfl Vw.row) | exact (Vw.pick 6 rfl Vw.row) | exact (Vw.pick 7 rfl Vw.row) | exact Vw.pick 0 rfl Vw.row | exact Vw.pick 1 rfl Vw.row | exact Vw.pick 2 rfl Vw.row | exact Vw.pick 3 rfl Vw.row | exact Vw.pick 4 rfl Vw.row | exact Vw.pick 5 rfl Vw.row | exact Vw.pick 6 rfl Vw.row | exact Vw.pick 7 rfl Vw.row | exact Vw.nil _ | exact Vw.empty _ _) (by omega)))) rfl ?_
          rintro _ H' ⟨_, ⟨rfl, rfl⟩, hH⟩
          simp only [List.cons_append, List.nil_append, List.eraseIdx_cons_zero, List.eraseIdx_cons_succ, List.set_cons_zero, List.set_cons_succ] at hH
          subst hH
          rw [hRF.l4]
          dsimp only
          refine ops_ro' rfl (ro_move rfl) rfl ?_
          refine ops_ro' rfl (ro_extract rfl rfl) rfl ?_
          refine ops_ro' rfl (ro_extract rfl rfl) rfl ?_
          refine ops_ro' rfl (ro_assign rfl) rfl ?_
          refine ops_ro' rfl (ro_assign rfl) rfl ?_
          refine ops_nil ?_
          refine Then_normal ?_
          refine wp_cutK 1023 (fun Δ LL => ∃ (b24 : Nat), Δ = [(24, .pointer (some ⟨b24, 0, none⟩)), (25, .int .i64 e3)] ∧ LL = [own b24 (.cells (a3).cs.toArray 40 (0, 0)), tree t3, row 9 1 (.slice p58 (F).length c58) (F).length (txs (F)), row 9 1 (.slice p60 (G).length c60) (G).length (txs (G)), row 93 8 (.slice p82 (l4).length c82) (l4).length (flat Nm.cs (l4)), own b14 (.cells (a3).cs.toArray 40 (0, 0)), V]) (Has.cons (k := 1) rfl (Has.cons (k := 2) rfl (Has.cons (k := 7) rfl (Has.cons (k := 10) rfl (Has.cons (k := 11) rfl (Has.cons (k := 13) rfl (Has.cons (k := 14) rfl (Has.cons (k := 16) rfl (Has.cons (k := 18) rfl (Has.cons (k := 20) rfl (Has.cons (k := 21) rfl (Has.cons (k := 23) rfl (Has.nil _))))))))))))) ?_ ?_
          · refine wp_region' ?_
            refine ops_ro' rfl (ro_move rfl) rfl ?_
            refine ops_ro' rfl (ro_move rfl) rfl ?_
            refine ops_eff' rfl (eff_callM (Pre := []) Try.call17 rfl rfl (Split.nil _) (tri_argc (by rw [ht3, htb]) (attrs_spec (by first | exact Tv.pick 0 rfl (tree_tv t3) | exact Tv.pick 1 rfl (tree_tv t3) | exact Tv.pick 2 rfl (tree_tv t3) | exact Tv.pick 3 rfl (tree_tv t3) | exact Tv.pick 4 rfl (tree_tv t3) | exact Tv.pick 5 rfl (tree_tv t3) | exact Tv.pick 6 rfl (tree_tv t3)) (x.id : Int) hdl4))) rfl ?_
            rintro _ H' ⟨_, ⟨rfl, rfl⟩, hH⟩
            simp only [List.cons_append, List.nil_append, List.eraseIdx_cons_zero, List.eraseIdx_cons_succ, List.set_cons_zero, List.set_cons_succ] at hH
            subst hH
            rw [hRF.att, hz3]
            dsimp only
            refine ops_ro' rfl (ro_move rfl) rfl ?_
            refine ops_ro' rfl (ro_extract rfl rfl) rfl ?_
            refine ops_ro' rfl (ro_extract rfl rfl) rfl ?_
            refine ops_eff' rfl (eff_alloc z40) rfl ?_
            rintro _ _ ⟨b24, rfl, rfl⟩
            refine ops_eff0 rfl (eff_storeA 0 ag40 rfl rfl rfl rfl rfl (Nat.le_of_ble_eq_true rfl) (warm_zero _)) rfl ?_
            rintro _ _ rfl
            simp only [List.set_cons_zero, List.set_cons_succ]
            refine ops_ro' rfl (ro_assign rfl) rfl ?_
            refine ops_nil ?_
            refine Then_normal ?_
            refine over_cut (kept ⟨b24, rfl, rfl⟩ ?_ ?_ ?_)
            · exact (by repeat (first | exact Has.nil _ | refine Has.cons rfl ?_))
            · exact (by repeat (first | exact Has.nil _ | refine Has.cons rfl ?_))
            · exact SubH.refl _
          · rintro Δ LL ⟨b24, rfl, rfl⟩
            simp only [List.cons_append, List.nil_append]
            refine wp_seq' ?_
            refine wp_region' ?_
            refine ops_ro' rfl (ro_move rfl) rfl ?_
            refine ops_ro' rfl (ro_move rfl) rfl ?_
            refine ops_eff' rfl (eff_callM (Pre := []) Try.call24 rfl rfl (Split.nil _) (tri_argc (by rw [ht3, htb]) (list_spec (by first | exact Tv.pick 0 rfl (tree_tv t3) | exact Tv.pick 1 rfl (tree_tv t3) | exact Tv.pick 2 rfl (tree_tv t3) | exact Tv.pick 3 rfl (tree_tv t3) | exact Tv.pick 4 rfl (tree_tv t3) | exact Tv.pick 5 rfl (tree_tv t3) | exact Tv.pick 6 rfl (tree_tv t3)) hW3 (x.id : Int) hdl4))) rfl ?_
            rintro _ H' ⟨_, ⟨p123, c123, rfl, rfl⟩, hH⟩
            simp only [List.cons_append, List.nil_append, List.eraseIdx_cons_zero, List.eraseIdx_cons_succ, List.set_cons_zero, List.set_cons_succ] at hH
            subst hH
            rw [hRF.lst, hz4]
            dsimp only
            refine ops_ro' rfl (ro_move rfl) rfl ?_
            refine ops_ro' rfl (ro_extract rfl rfl) rfl ?_
            refine ops_ro' rfl (ro_extract rfl rfl) rfl ?_
            refine ops_ro' rfl (ro_assign rfl) rfl ?_
            refine ops_ro' rfl (ro_assign rfl) rfl ?_
            refine ops_nil ?_
            refine Then_normal ?_
            refine wp_seq' ?_
            refine wp_seq' ?_
            have hll : l4.length ≤ 140737488355328 := list_len hW hz4
            refine wp_region' ?_
            refine ops_ro' rfl (ro_move rfl) rfl ?_
            refine ops_ro' rfl (ro_neq rfl rfl (decide_eq_false (by omega))) rfl ?_
            refine ops_ro' rfl (ro_move (v := .bool false) rfl) rfl ?_
            refine ops_ro' rfl (ro_move rfl) rfl ?_
            refine ops_ro' rfl (ro_neq rfl rfl (decide_eq_false (by omega))) rfl ?_
            refine ops_ro' rfl (ro_pick rfl rfl) rfl ?_
            refine ops_ro' rfl (ro_move (v := .bool false) rfl) rfl ?_
            refine ops_ro' rfl (ro_move rfl) rfl ?_
            refine ops_ro' rfl (ro_neq rfl rfl (decide_eq_false (by omega))) rfl ?_
            refine ops_ro' rfl (ro_pick rfl rfl) rfl ?_
            refine ops_ro' rfl (ro_move (v := .bool false) rfl) rfl ?_
            refine ops_ro' rfl (ro_move rfl) rfl ?_
            refine ops_ro' rfl (ro_neq rfl rfl (decide_eq_false (by omega))) rfl ?_
            refine ops_ro' rfl (ro_pick rfl rfl) rfl ?_
            refine ops_ro' rfl (ro_move (v := .bool false) rfl) rfl ?_
            refine ops_ro' rfl (ro_move rfl) rfl ?_
            refine ops_ro' rfl (ro_move rfl) rfl ?_
            refine ops_ro' rfl (ro_neq rfl rfl (decide_eq_false (by omega))) rfl ?_
            refine ops_ro' rfl (ro_pick rfl rfl) rfl ?_
            refine ops_ro' rfl (ro_move (v := .bool false) rfl) rfl ?_
            refine ops_ro' rfl (ro_loadA ag40 rfl (RdN.of_pick 6 rfl rdn_all) rfl) rfl ?_
            refine ops_ro' rfl (ro_loadA ag40 rfl (RdN.of_pick 1 rfl rdn_all) rfl) rfl ?_
            refine ops_ro' rfl (ro_attrNe rfl rfl (c := false) (by simp)) rfl ?_
            refine ops_ro' rfl (ro_pick rfl rfl) rfl ?_
            refine ops_ro' rfl (ro_move (v := .bool false) rfl) rfl ?_
            refine ops_ro' rfl (ro_move rfl) rfl ?_
            refine ops_ro' rfl (ro_move rfl) rfl ?_
            refine ops_eff' rfl (eff_callM (Pre := []) Try.call27 rfl rfl (Split.nil _) (knames_spec _ l4 l4 _ _ _ _ (by first | exact (Vw.pick 0 rfl Vw.row) | exact (Vw.pick 1 rfl Vw.row) | exact (Vw.pick 2 rfl Vw.row) | exact (Vw.pick 3 rfl Vw.row) | exact (Vw.pick 4 rfl Vw.row) | exact (Vw.pick 5 rfl Vw.row) | exact (Vw.pick 6 rfl Vw.row) | exact (Vw.pick 7 rfl Vw.row) | exact Vw.pick 0 rfl Vw.row | exact Vw.pick 1 rfl Vw.row | exact Vw.pick 2 rfl Vw.row | exact Vw.pick 3 rfl Vw.row | exact Vw.pick 4 rfl Vw.row | exact Vw.pick 5 rfl Vw.row | exact Vw.pick 6 rfl Vw.row | exact Vw.pick 7 rfl Vw.row | exact Vw.nil _ | exact Vw.empty _ _) (by first | exact (Vw.pick 0 rfl Vw.row) | exact (Vw.pick 1 rfl Vw.row) | exact (Vw.pick 2 rfl Vw.row) | exact (Vw.pick 3 rfl Vw.row) | exact (Vw.pick 4 rfl Vw.row) | exact (Vw.pick 5 rfl Vw.row) | exact (Vw.pick 6 rfl Vw.row) | exact (Vw.pick 7 rfl Vw.row) | exact Vw.pick 0 rfl Vw.row | exact Vw.pick 1 rfl Vw.row | exact Vw.pick 2 rfl Vw.row | exact Vw.pick 3 rfl Vw.row | exact Vw.pick 4 rfl Vw.row | exact Vw.pick 5 rfl Vw.row | exact Vw.pick 6 rfl Vw.row | exact Vw.pick 7 rfl Vw.row | exact Vw.nil _ | exact Vw.empty _ _) hll)) rfl ?_
            rintro _ H' ⟨_, ⟨rfl, rfl⟩, hH⟩
            simp only [List.cons_append, List.nil_append, List.eraseIdx_cons_zero, List.eraseIdx_cons_succ, List.set_cons_zero, List.set_cons_succ] at hH
            subst hH
            try rw [decide_eq_true rfl]
            refine ops_ro' rfl (ro_not rfl rfl) rfl ?_
            refine ops_ro' rfl (ro_pick rfl rfl) rfl ?_
            refine ops_nil ?_
            refine Then_normal ?_
            refine wp_condF rfl ?_
            refine wp_skip' ?_
            refine Then_normal ?_
            refine wp_seq' ?_
            refine wp_sub' (L := [tree t3, row 9 1 (.slice p58 (F).length c58) (F).length (txs (F)), row 9 1 (.slice p60 (G).length c60) (G).length (txs (G)), V]) (by repeat (first | exact SubH.nil _ | refine SubH.cons 0 rfl ?_ | refine SubH.cons 1 rfl ?_ | refine SubH.cons 2 rfl ?_ | refine SubH.cons 3 rfl ?_ | refine SubH.cons 4 rfl ?_ | refine SubH.cons 5 rfl ?_ | refine SubH.cons 6 rfl ?_ | refine SubH.cons 7 rfl ?_ | refine SubH.cons 8 rfl ?_ | refine SubH.cons 9 rfl ?_ | refine SubH.cons 10 rfl ?_ | refine SubH.cons 11 rfl ?_ | refine SubH.cons 12 rfl ?_ | refine SubH.cons 13 rfl ?_ | refine SubH.rown ?_)) ?_
            refine wp_region' ?_
            refine ops_ro' rfl (ro_move rfl) rfl ?_
            refine ops_ro' rfl (ro_move rfl) rfl ?_
            refine ops_ro' rfl (ro_move rfl) rfl ?_
            refine ops_eff' rfl (eff_callM (Pre := [_]) Try.call26 rfl rfl (by repeat (first | exact Split.nil _ | apply Split.cons 0 rfl | apply Split.cons 1 rfl | apply Split.cons 2 rfl | apply Split.cons 3 rfl | apply Split.cons 4 rfl | apply Split.cons 5 rfl | apply Split.cons 6 rfl | apply Split.cons 7 rfl | apply Split.cons 8 rfl | apply Split.cons 9 rfl | apply Split.cons 10 rfl | apply Split.cons 11 rfl)) (tri_argc (by rw [ht3, htb]) (renameK_spec hW3 _ _ G (by first | exact (Vw.pick 0 rfl Vw.row) | exact (Vw.pick 1 rfl Vw.row) | exact (Vw.pick 2 rfl Vw.row) | exact (Vw.pick 3 rfl Vw.row) | exact (Vw.pick 4 rfl Vw.row) | exact (Vw.pick 5 rfl Vw.row) | exact (Vw.pick 6 rfl Vw.row) | exact (Vw.pick 7 rfl Vw.row) | exact Vw.pick 0 rfl Vw.row | exact Vw.pick 1 rfl Vw.row | exact Vw.pick 2 rfl Vw.row | exact Vw.pick 3 rfl Vw.row | exact Vw.pick 4 rfl Vw.row | exact Vw.pick 5 rfl Vw.row | exact Vw.pick 6 rfl Vw.row | exact Vw.pick 7 rfl Vw.row | exact Vw.nil _ | exact Vw.empty _ _) hcG (by omega) _ _ F (by first | exact (Vw.pick 0 rfl Vw.row) | exact (Vw.pick 1 rfl Vw.row) | exact (Vw.pick 2 rfl Vw.row) | exact (Vw.pick 3 rfl Vw.row) | exact (Vw.pick 4 rfl Vw.row) | exact (Vw.pick 5 rfl Vw.row) | exact (Vw.pick 6 rfl Vw.row) | exact (Vw.pick 7 rfl Vw.row) | exact Vw.pick 0 rfl Vw.row | exact Vw.pick 1 rfl Vw.row | exact Vw.pick 2 rfl Vw.row | exact Vw.pick 3 rfl Vw.row | exact Vw.pick 4 rfl Vw.row | exact Vw.pick 5 rfl Vw.row | exact Vw.pick 6 rfl Vw.row | exact Vw.pick 7 rfl Vw.row | exact Vw.nil _ | exact Vw.empty _ _) hcF (by omega) (by omega)))) rfl ?_
            rintro _ H' ⟨_, ⟨t4, r4, e6, rfl, hR4, hW4, ht4, hn4, rfl⟩, hH⟩
            simp only [List.cons_append, List.nil_append, List.eraseIdx_cons_zero, List.eraseIdx_cons_succ, List.set_cons_zero, List.set_cons_succ] at hH
            subst hH
            obtain rfl : e6 = 0 := ren_ok hR4 hRF.back
            obtain ⟨hsm, hnx4⟩ := hRF.same _ _ _ hR4 rfl
            refine ops_ro' rfl (ro_eql rfl rfl (decide_eq_true (by omega))) rfl ?_
            refine ops_ro' rfl (ro_move (v := .bool true) rfl) rfl ?_
            refine ops_ro' rfl (ro_move rfl) rfl ?_
            refine ops_eff' rfl (eff_callM (Pre := []) Try.call25 rfl rfl (Split.nil _) (tri_argc (by rw [ht4, ht3, htb]) (save_spec (by first | exact Tv.pick 0 rfl (tree_tv t4) | exact Tv.pick 1 rfl (tree_tv t4) | exact Tv.pick 2 rfl (tree_tv t4) | exact Tv.pick 3 rfl (tree_tv t4) | exact Tv.pick 4 rfl (tree_tv t4) | exact Tv.pick 5 rfl (tree_tv t4) | exact Tv.pick 6 rfl (tree_tv t4)) hW4 (by omega)))) rfl ?_
            rintro _ H' ⟨_, ⟨sb2, p163, c163, rfl, hS2, hsl2, rfl⟩, hH⟩
            simp only [List.cons_append, List.nil_append, List.eraseIdx_cons_zero, List.eraseIdx_cons_succ, List.set_cons_zero, List.set_cons_succ] at hH
            subst hH
            obtain rfl := save_co hW4 hW hsm hnx4 hS2 hS1
            refine ops_ro' rfl (ro_toStr Try.underlying30 Try.underlying5 Try.underlying9 rfl (Vw.pick 0 rfl Vw.row) rfl) rfl ?_
            refine ops_ro' rfl (ro_move rfl) rfl ?_
            refine ops_ro' rfl (ro_eqlS rfl rfl (decide_eq_true rfl)) rfl ?_
            refine ops_ro' rfl (ro_pick rfl rfl) rfl ?_
            refine ops_ro' rfl (ro_move (v := .bool true) rfl) rfl ?_
            refine ops_eff' rfl (eff_call Try.call18 rfl rfl (by repeat (first | exact Split.nil _ | apply Split.cons 0 rfl | apply Split.cons 1 rfl | apply Split.cons 2 rfl | apply Split.cons 3 rfl | apply Split.cons 4 rfl | apply Split.cons 5 rfl | apply Split.cons 6 rfl | apply Split.cons 7 rfl | apply Split.cons 8 rfl | apply Split.cons 9 rfl | apply Split.cons 10 rfl | apply Split.cons 11 rfl)) (known15_spec)) rfl ?_
            rintro _ H' ⟨_, ⟨rfl, rfl⟩, hH⟩
            simp only [List.cons_append, List.nil_append, List.eraseIdx_cons_zero, List.eraseIdx_cons_succ, List.set_cons_zero, List.set_cons_succ] at hH
            subst hH
            refine ops_ro' rfl (ro_pick rfl rfl) rfl ?_
            refine ops_ro' rfl (ro_assign rfl) rfl ?_
            refine ops_nil ?_
            refine Then_normal ?_
            refine wp_ret' ?_
            refine' doneS_ret (res1 rfl rfl) ?_ ?_
            rotate_left 1
            exact ⟨rfl, rfl⟩
            exact (SubH.cons 4 rfl (SubH.nil _))
  · replace hg35 := of_decide_eq_false hg35
    refine ops_skip' rfl rfl ?_
    refine ops_skip' rfl rfl ?_
    refine ops_ro' rfl (ro_pick rfl rfl) rfl ?_
    refine ops_nil ?_
    refine Then_normal ?_
    refine wp_condF rfl ?_
    refine wp_exit' ?_
    refine Then_exit ?_
    refine Then_exit ?_
    refine InBlock_here ?_
    refine Then_normal ?_
    refine wp_seq' ?_
    refine wp_region' ?_
    refine ops_ro' rfl (ro_move rfl) rfl ?_
    refine ops_eff' rfl (eff_call Try.call22 rfl rfl (by repeat (first | exact Split.nil _ | apply Split.cons 0 rfl | apply Split.cons 1 rfl | apply Split.cons 2 rfl | apply Split.cons 3 rfl | apply Split.cons 4 rfl | apply Split.cons 5 rfl | apply Split.cons 6 rfl | apply Split.cons 7 rfl | apply Split.cons 8 rfl | apply Split.cons 9 rfl | apply Split.cons 10 rfl | apply Split.cons 11 rfl)) (kFew V fp fc fr hF 5 32 (by omega) hfl)) rfl ?_
    rintro _ H' ⟨_, ⟨_, ⟨p58, c58, rfl, rfl⟩, rfl⟩, hH⟩
    simp only [List.cons_append, List.nil_append, List.eraseIdx_cons_zero, List.eraseIdx_cons_succ, List.set_cons_zero, List.set_cons_succ] at hH
    subst hH
    have hFl : (few2 (fr.take 5) 32).length ≤ 5 := by simp only [few2, List.length_map, List.length_take]; omega
    have hFn : (lastN (few2 (fr.take 5) 32)).length ≤ 32 := lastN_le few2_le
    generalize few2 (fr.take 5) 32 = F at *
    refine ops_ro' rfl (ro_assign rfl) rfl ?_
    refine ops_nil ?_
    refine Then_normal ?_
    refine wp_seq' ?_
    refine wp_region' ?_
    refine ops_ro' rfl (ro_move rfl) rfl ?_
    refine ops_eff' rfl (eff_call Try.call22 rfl rfl (by repeat (first | exact Split.nil _ | apply Split.cons 0 rfl | apply Split.cons 1 rfl | apply Split.cons 2 rfl | apply Split.cons 3 rfl | apply Split.cons 4 rfl | apply Split.cons 5 rfl | apply Split.cons 6 rfl | apply Split.cons 7 rfl | apply Split.cons 8 rfl | apply Split.cons 9 rfl | apply Split.cons 10 rfl | apply Split.cons 11 rfl)) (kFew V gp gc to hG 5 32 (by omega) hgl)) rfl ?_
    rintro _ H' ⟨_, ⟨_, ⟨p60, c60, rfl, rfl⟩, rfl⟩, hH⟩
    simp only [List.cons_append, List.nil_append, List.eraseIdx_cons_zero, List.eraseIdx_cons_succ, List.set_cons_zero, List.set_cons_succ] at hH
    subst hH
    have hGl : (few2 (to.take 5) 32).length ≤ 5 := by simp only [few2, List.length_map, List.length_take]; omega
    have hGn : (lastN (few2 (to.take 5) 32)).length ≤ 32 := lastN_le few2_le
    generalize few2 (to.take 5) 32 = G at *
    refine ops_ro' rfl (ro_assign rfl) rfl ?_
    refine ops_nil ?_
    refine Then_normal ?_
    refine wp_seq' ?_
    have hdl := wf_dl hW
    have hdl2 : ∀ x ∈ t.ns, x.data.length ≤ 100000000 := fun x hx => by have := hdl x hx; omega
    refine wp_region' ?_
    refine ops_ro' rfl (ro_move rfl) rfl ?_
    refine ops_ro' rfl (ro_move rfl) rfl ?_
    refine ops_eff' rfl (eff_callM (Pre := []) Try.call23 rfl rfl (Split.nil _) (tri_argc htb (look_spec (by first | exact Tv.pick 0 rfl (tree_tv t) | exact Tv.pick 1 rfl (tree_tv t) | exact Tv.pick 2 rfl (tree_tv t) | exact Tv.pick 3 rfl (tree_tv t) | exact Tv.pick 4 rfl (tree_tv t) | exact Tv.pick 5 rfl (tree_tv t) | exact Tv.pick 6 rfl (tree_tv t)) hW _ _ F (by first | exact (Vw.pick 0 rfl Vw.row) | exact (Vw.pick 1 rfl Vw.row) | exact (Vw.pick 2 rfl Vw.row) | exact (Vw.pick 3 rfl Vw.row) | exact (Vw.pick 4 rfl Vw.row) | exact (Vw.pick 5 rfl Vw.row) | exact (Vw.pick 6 rfl Vw.row) | exact (Vw.pick 7 rfl Vw.row) | exact Vw.pick 0 rfl Vw.row | exact Vw.pick 1 rfl Vw.row | exact Vw.pick 2 rfl Vw.row | exact Vw.pick 3 rfl Vw.row | exact Vw.pick 4 rfl Vw.row | exact Vw.pick 5 rfl Vw.row | exact Vw.pick 6 rfl Vw.row | exact Vw.pick 7 rfl Vw.row | exact Vw.nil _ | exact Vw.empty _ _) (by omega)))) rfl ?_
    rintro _ H' ⟨_, ⟨rfl, rfl⟩, hH⟩
    simp only [List.cons_append, List.nil_append, List.eraseIdx_cons_zero, List.eraseIdx_cons_succ, List.set_cons_zero, List.set_cons_succ] at hH
    subst hH
    obtain ⟨⟨z1, e1⟩, hz1⟩ : ∃ z : Int × Int, lookO (fnd t.ns r F) = z := ⟨_, rfl⟩
    rw [hz1]
    dsimp only
    refine ops_ro' rfl (ro_move rfl) rfl ?_
    refine ops_ro' rfl (ro_extract rfl rfl) rfl ?_
    refine ops_ro' rfl (ro_extract rfl rfl) rfl ?_
    refine ops_ro' rfl (ro_assign rfl) rfl ?_
    refine ops_ro' rfl (ro_assign rfl) rfl ?_
    refine ops_nil ?_
    refine Then_normal ?_
    refine wp_seq' ?_
    refine wp_region' ?_
    refine ops_ro' rfl (ro_move rfl) rfl ?_
    refine ops_ro' rfl (ro_move rfl) rfl ?_
    refine ops_eff' rfl (eff_callM (Pre := []) Try.call23 rfl rfl (Split.nil _) (tri_argc htb (look_spec (by first | exact Tv.pick 0 rfl (tree_tv t) | exact Tv.pick 1 rfl (tree_tv t) | exact Tv.pick 2 rfl (tree_tv t) | exact Tv.pick 3 rfl (tree_tv t) | exact Tv.pick 4 rfl (tree_tv t) | exact Tv.pick 5 rfl (tree_tv t) | exact Tv.pick 6 rfl (tree_tv t)) hW _ _ G (by first | exact (Vw.pick 0 rfl Vw.row) | exact (Vw.pick 1 rfl Vw.row) | exact (Vw.pick 2 rfl Vw.row) | exact (Vw.pick 3 rfl Vw.row) | exact (Vw.pick 4 rfl Vw.row) | exact (Vw.pick 5 rfl Vw.row) | exact (Vw.pick 6 rfl Vw.row) | exact (Vw.pick 7 rfl Vw.row) | exact Vw.pick 0 rfl Vw.row | exact Vw.pick 1 rfl Vw.row | exact Vw.pick 2 rfl Vw.row | exact Vw.pick 3 rfl Vw.row | exact Vw.pick 4 rfl Vw.row | exact Vw.pick 5 rfl Vw.row | exact Vw.pick 6 rfl Vw.row | exact Vw.pick 7 rfl Vw.row | exact Vw.nil _ | exact Vw.empty _ _) (by omega)))) rfl ?_
    rintro _ H' ⟨_, ⟨rfl, rfl⟩, hH⟩
    simp only [List.cons_append, List.nil_append, List.eraseIdx_cons_zero, List.eraseIdx_cons_succ, List.set_cons_zero, List.set_cons_succ] at hH
    subst hH
    obtain ⟨⟨z2, e2⟩, hz2⟩ : ∃ z : Int × Int, lookO (fnd t.ns r G) = z := ⟨_, rfl⟩
    rw [hz2]
    dsimp only
    refine ops_ro' rfl (ro_move rfl) rfl ?_
    refine ops_ro' rfl (ro_extract rfl rfl) rfl ?_
    refine ops_ro' rfl (ro_extract rfl rfl) rfl ?_
    refine ops_ro' rfl (ro_assign rfl) rfl ?_
    refine ops_ro' rfl (ro_assign rfl) rfl ?_
    refine ops_nil ?_
    refine Then_normal ?_
    refine wp_cutK 1015 (fun Δ LL => ∃ (b14 : Nat) (a3 : At) (e3 : Int), (attO (byId t.ns z1) = (a3, e3)) ∧ Δ = [(14, .pointer (some ⟨b14, 0, none⟩)), (15, .int .i64 e3)] ∧ LL = [own b14 (.cells (a3).cs.toArray 40 (0, 0)), row 9 1 (.slice p60 (G).length c60) (G).length (txs (G)), row 9 1 (.slice p58 (F).length c58) (F).length (txs (F)), tree t, V]) (Has.cons (k := 1) rfl (Has.cons (k := 2) rfl (Has.cons (k := 7) rfl (Has.cons (k := 10) rfl (Has.cons (k := 11) rfl (Has.cons (k := 13) rfl (Has.nil _))))))) ?_ ?_
    · refine wp_region' ?_
      refine ops_ro' rfl (ro_move rfl) rfl ?_
      refine ops_ro' rfl (ro_move rfl) rfl ?_
      refine ops_eff' rfl (eff_callM (Pre := []) Try.call17 rfl rfl (Split.nil _) (tri_argc htb (attrs_spec (by first | exact Tv.pick 0 rfl (tree_tv t) | exact Tv.pick 1 rfl (tree_tv t) | exact Tv.pick 2 rfl (tree_tv t) | exact Tv.pick 3 rfl (tree_tv t) | exact Tv.pick 4 rfl (tree_tv t) | exact Tv.pick 5 rfl (tree_tv t) | exact Tv.pick 6 rfl (tree_tv t)) z1 hdl2))) rfl ?_
      rintro _ H' ⟨_, ⟨rfl, rfl⟩, hH⟩
      simp only [List.cons_append, List.nil_append, List.eraseIdx_cons_zero, List.eraseIdx_cons_succ, List.set_cons_zero, List.set_cons_succ] at hH
      subst hH
      obtain ⟨⟨a3, e3⟩, hz3⟩ : ∃ z : At × Int, attO (byId t.ns z1) = z := ⟨_, rfl⟩
      rw [hz3]
      dsimp only
      refine ops_ro' rfl (ro_move rfl) rfl ?_
      refine ops_ro' rfl (ro_extract rfl rfl) rfl ?_
      refine ops_ro' rfl (ro_extract rfl rfl) rfl ?_
      refine ops_eff' rfl (eff_alloc z40) rfl ?_
      rintro _ _ ⟨b14, rfl, rfl⟩
      refine ops_eff0 rfl (eff_storeA 0 ag40 rfl rfl rfl rfl rfl (Nat.le_of_ble_eq_true rfl) (warm_zero _)) rfl ?_
      rintro _ _ rfl
      simp only [List.set_cons_zero, List.set_cons_succ]
      refine ops_ro' rfl (ro_assign rfl) rfl ?_
      refine ops_nil ?_
      refine Then_normal ?_
      refine over_cut (kept ⟨b14, a3, e3, rfl, rfl, rfl⟩ ?_ ?_ ?_)
      · exact (by repeat (first | exact Has.nil _ | refine Has.cons rfl ?_))
      · exact (by repeat (first | exact Has.nil _ | refine Has.cons rfl ?_))
      · exact (SubH.cons 0 rfl (SubH.cons 0 rfl (SubH.cons 1 rfl (SubH.cons 1 rfl (SubH.cons 0 rfl (SubH.nil _))))))
    · rintro Δ LL ⟨b14, a3, e3, hz3, rfl, rfl⟩
      simp only [List.cons_append, List.nil_append]
      refine wp_seq' ?_
      refine wp_region' ?_
      refine ops_ro' rfl (ro_move rfl) rfl ?_
      refine ops_ro' rfl (ro_move rfl) rfl ?_
      refine ops_eff' rfl (eff_callM (Pre := []) Try.call24 rfl rfl (Split.nil _) (tri_argc htb (list_spec (by first | exact Tv.pick 0 rfl (tree_tv t) | exact Tv.pick 1 rfl (tree_tv t) | exact Tv.pick 2 rfl (tree_tv t) | exact Tv.pick 3 rfl (tree_tv t) | exact Tv.pick 4 rfl (tree_tv t) | exact Tv.pick 5 rfl (tree_tv t) | exact Tv.pick 6 rfl (tree_tv t)) hW z1 hdl2))) rfl ?_
      rintro _ H' ⟨_, ⟨p82, c82, rfl, rfl⟩, hH⟩
      simp only [List.cons_append, List.nil_append, List.eraseIdx_cons_zero, List.eraseIdx_cons_succ, List.set_cons_zero, List.set_cons_succ] at hH
      subst hH
      obtain ⟨⟨l4, e4⟩, hz4⟩ : ∃ z : List Nm × Int, listO t.ns (byId t.ns z1) = z := ⟨_, rfl⟩
      rw [hz4]
      dsimp only
      refine ops_ro' rfl (ro_move rfl) rfl ?_
      refine ops_ro' rfl (ro_extract rfl rfl) rfl ?_
      refine ops_ro' rfl (ro_extract rfl rfl) rfl ?_
      refine ops_ro' rfl (ro_assign rfl) rfl ?_
      refine ops_ro' rfl (ro_assign rfl) rfl ?_
      refine ops_nil ?_
      refine Then_normal ?_
      refine wp_seq' ?_
      refine wp_region' ?_
      refine ops_ro' rfl (ro_move rfl) rfl ?_
      refine ops_eff' rfl (eff_callM (Pre := []) Try.call25 rfl rfl (Split.nil _) (tri_argc htb (save_spec (by first | exact Tv.pick 0 rfl (tree_tv t) | exact Tv.pick 1 rfl (tree_tv t) | exact Tv.pick 2 rfl (tree_tv t) | exact Tv.pick 3 rfl (tree_tv t) | exact Tv.pick 4 rfl (tree_tv t) | exact Tv.pick 5 rfl (tree_tv t) | exact Tv.pick 6 rfl (tree_tv t)) hW (by omega)))) rfl ?_
      rintro _ H' ⟨_, ⟨sb, p86, c86, rfl, hS1, hsl, rfl⟩, hH⟩
      simp only [List.cons_append, List.nil_append, List.eraseIdx_cons_zero, List.eraseIdx_cons_succ, List.set_cons_zero, List.set_cons_succ] at hH
      subst hH
      refine ops_ro' rfl (ro_toStr Try.underlying30 Try.underlying5 Try.underlying9 rfl (Vw.pick 0 rfl Vw.row) rfl) rfl ?_
      refine ops_ro' rfl (ro_assign rfl) rfl ?_
      refine ops_nil ?_
      refine Then_normal ?_
      refine wp_seq' ?_
      refine wp_sub' (L := [tree t, row 9 1 (.slice p58 (F).length c58) (F).length (txs (F)), row 9 1 (.slice p60 (G).length c60) (G).length (txs (G)), row 93 8 (.slice p82 (l4).length c82) (l4).length (flat Nm.cs (l4)), own b14 (.cells (a3).cs.toArray 40 (0, 0)), V]) (by repeat (first | exact SubH.nil _ | refine SubH.cons 0 rfl ?_ | refine SubH.cons 1 rfl ?_ | refine SubH.cons 2 rfl ?_ | refine SubH.cons 3 rfl ?_ | refine SubH.cons 4 rfl ?_ | refine SubH.cons 5 rfl ?_ | refine SubH.cons 6 rfl ?_ | refine SubH.cons 7 rfl ?_ | refine SubH.cons 8 rfl ?_ | refine SubH.cons 9 rfl ?_ | refine SubH.cons 10 rfl ?_ | refine SubH.cons 11 rfl ?_ | refine SubH.cons 12 rfl ?_ | refine SubH.cons 13 rfl ?_ | refine SubH.rown ?_)) ?_
      refine wp_know (fun w F s => row_caps 1 rfl s) ?_
      intro hcF
      refine wp_know (fun w F s => row_caps 2 rfl s) ?_
      intro hcG
      refine wp_region' ?_
      refine ops_ro' rfl (ro_move rfl) rfl ?_
      refine ops_ro' rfl (ro_move rfl) rfl ?_
      refine ops_ro' rfl (ro_move rfl) rfl ?_
      refine ops_eff' rfl (eff_callM (Pre := [_]) Try.call26 rfl rfl (by repeat (first | exact Split.nil _ | apply Split.cons 0 rfl | apply Split.cons 1 rfl | apply Split.cons 2 rfl | apply Split.cons 3 rfl | apply Split.cons 4 rfl | apply Split.cons 5 rfl | apply Split.cons 6 rfl | apply Split.cons 7 rfl | apply Split.cons 8 rfl | apply Split.cons 9 rfl | apply Split.cons 10 rfl | apply Split.cons 11 rfl)) (tri_argc htb (renameK_spec hW _ _ F (by first | exact (Vw.pick 0 rfl Vw.row) | exact (Vw.pick 1 rfl Vw.row) | exact (Vw.pick 2 rfl Vw.row) | exact (Vw.pick 3 rfl Vw.row) | exact (Vw.pick 4 rfl Vw.row) | exact (Vw.pick 5 rfl Vw.row) | exact (Vw.pick 6 rfl Vw.row) | exact (Vw.pick 7 rfl Vw.row) | exact Vw.pick 0 rfl Vw.row | exact Vw.pick 1 rfl Vw.row | exact Vw.pick 2 rfl Vw.row | exact Vw.pick 3 rfl Vw.row | exact Vw.pick 4 rfl Vw.row | exact Vw.pick 5 rfl Vw.row | exact Vw.pick 6 rfl Vw.row | exact Vw.pick 7 rfl Vw.row | exact Vw.nil _ | exact Vw.empty _ _) hcF (by omega) _ _ G (by first | exact (Vw.pick 0 rfl Vw.row) | exact (Vw.pick 1 rfl Vw.row) | exact (Vw.pick 2 rfl Vw.row) | exact (Vw.pick 3 rfl Vw.row) | exact (Vw.pick 4 rfl Vw.row) | exact (Vw.pick 5 rfl Vw.row) | exact (Vw.pick 6 rfl Vw.row) | exact (Vw.pick 7 rfl Vw.row) | exact Vw.pick 0 rfl Vw.row | exact Vw.pick 1 rfl Vw.row | exact Vw.pick 2 rfl Vw.row | exact Vw.pick 3 rfl Vw.row | exact Vw.pick 4 rfl Vw.row | exact Vw.pick 5 rfl Vw.row | exact Vw.pick 6 rfl Vw.row | exact Vw.pick 7 rfl Vw.row | exact Vw.nil _ | exact Vw.empty _ _) hcG (by omega) (by omega)))) rfl ?_
      rintro _ H' ⟨_, ⟨t3, r3, e5, rfl, hR, hW3, ht3, hn3, rfl⟩, hH⟩
      simp only [List.cons_append, List.nil_append, List.eraseIdx_cons_zero, List.eraseIdx_cons_succ, List.set_cons_zero, List.set_cons_succ] at hH
      subst hH
      refine ops_ro' rfl (ro_assign rfl) rfl ?_
      refine ops_nil ?_
      refine Then_normal ?_
      refine wp_seq' ?_
      refine wp_seq' ?_
      refine wp_region' ?_
      refine ops_ro' rfl (ro_move rfl) rfl ?_
      refine ops_ro' rfl (ro_neq rfl rfl rfl) rfl ?_
      refine ops_nil ?_
      refine Then_normal ?_
      refine wp_cond' rfl (fun hc93 => ?_) (fun hc93 => ?_)
      · replace hc93 := of_decide_eq_true hc93
        obtain rfl : t3 = t := ren_bad hR (by omega)
        refine wp_seq' ?_
        refine wp_region' ?_
        refine ops_ro' rfl (ro_move rfl) rfl ?_
        refine ops_eff' rfl (eff_callM (Pre := []) Try.call25 rfl rfl (Split.nil _) (tri_argc (by first | exact htb | rw [ht3, htb]) (save_spec (by first | exact Tv.pick 0 rfl (tree_tv t3) | exact Tv.pick 1 rfl (tree_tv t3) | exact Tv.pick 2 rfl (tree_tv t3) | exact Tv.pick 3 rfl (tree_tv t3) | exact Tv.pick 4 rfl (tree_tv t3) | exact Tv.pick 5 rfl (tree_tv t3) | exact Tv.pick 6 rfl (tree_tv t3)) (by first | exact hW3 | exact hW) (by omega)))) rfl ?_
        rintro _ H' ⟨_, ⟨sb2, p95, c95, rfl, hS2, hsl2, rfl⟩, hH⟩
        simp only [List.cons_append, List.nil_append, List.eraseIdx_cons_zero, List.eraseIdx_cons_succ, List.set_cons_zero, List.set_cons_succ] at hH
        subst hH
        obtain rfl := save_co hW hW3 (fun c => Iff.rfl) rfl hS1 hS2
        refine ops_ro' rfl (ro_toStr Try.underlying30 Try.underlying5 Try.underlying9 rfl (Vw.pick 0 rfl Vw.row) rfl) rfl ?_
        refine ops_ro' rfl (ro_move rfl) rfl ?_
        refine ops_ro' rfl (ro_eqlS rfl rfl (decide_eq_true rfl)) rfl ?_
        refine ops_ro' rfl (ro_move (v := .bool true) rfl) rfl ?_
        refine ops_eff' rfl (eff_call Try.call18 rfl rfl (by repeat (first | exact Split.nil _ | apply Split.cons 0 rfl | apply Split.cons 1 rfl | apply Split.cons 2 rfl | apply Split.cons 3 rfl | apply Split.cons 4 rfl | apply Split.cons 5 rfl | apply Split.cons 6 rfl | apply Split.cons 7 rfl | apply Split.cons 8 rfl | apply Split.cons 9 rfl | apply Split.cons 10 rfl | apply Split.cons 11 rfl)) (known15_spec)) rfl ?_
        rintro _ H' ⟨_, ⟨rfl, rfl⟩, hH⟩
        simp only [List.cons_append, List.nil_append, List.eraseIdx_cons_zero, List.eraseIdx_cons_succ, List.set_cons_zero, List.set_cons_succ] at hH
        subst hH
        refine ops_ro' rfl (ro_pick rfl rfl) rfl ?_
        refine ops_ro' rfl (ro_assign rfl) rfl ?_
        refine ops_nil ?_
        refine Then_normal ?_
        refine wp_ret' ?_
        refine Then_ret ?_
        refine' doneS_ret (res1 rfl rfl) ?_ ?_
        rotate_left 1
        exact ⟨rfl, rfl⟩
        exact (SubH.cons 6 rfl (SubH.nil _))
      · replace hc93 := of_decide_eq_false hc93
        obtain ⟨x, hRF⟩ := ren_facts hW hW3 hR (fun h => h.1 (by omega))
        obtain ⟨rfl, rfl⟩ : z1 = x.id ∧ e1 = 0 := by have h := hRF.l1; rw [hz1] at h; exact ⟨congrArg Prod.fst h, congrArg Prod.snd h⟩
        obtain ⟨rfl, rfl⟩ : z2 = 0 ∧ e2 = 22 := by have h := hRF.l2; rw [hz2] at h; exact ⟨congrArg Prod.fst h, congrArg Prod.snd h⟩
        refine wp_skip' ?_
        refine Then_normal ?_
        refine wp_seq' ?_
        have hdl3 := wf_dl hW3
        have hdl4 : ∀ x ∈ t3.ns, x.data.length ≤ 100000000 := fun x hx => by have := hdl3 x hx; omega
        refine wp_region' ?_
        refine ops_ro' rfl (ro_move rfl) rfl ?_
        refine ops_ro' rfl (ro_move rfl) rfl ?_
        refine ops_eff' rfl (eff_callM (Pre := []) Try.call23 rfl rfl (Split.nil _) (tri_argc (by rw [ht3, htb]) (look_spec (by first | exact Tv.pick 0 rfl (tree_tv t3) | exact Tv.pick 1 rfl (tree_tv t3) | exact Tv.pick 2 rfl (tree_tv t3) | exact Tv.pick 3 rfl (tree_tv t3) | exact Tv.pick 4 rfl (tree_tv t3) | exact Tv.pick 5 rfl (tree_tv t3) | exact Tv.pick 6 rfl (tree_tv t3)) hW3 _ _ G (by first | exact (Vw.pick 0 rfl Vw.row) | exact (Vw.pick 1 rfl Vw.row) | exact (Vw.pick 2 rfl Vw.row) | exact (Vw.pick 3 rfl Vw.row) | exact (Vw.pick 4 rfl Vw.row) | exact (Vw.pick 5 rfl Vw.row) | exact (Vw.pick 6 rfl Vw.row) | exact (Vw.pick 7 rfl Vw.row) | exact Vw.pick 0 rfl Vw.row | exact Vw.pick 1 rfl Vw.row | exact Vw.pick 2 rfl Vw.row | exact Vw.pick 3 rfl Vw.row | exact Vw.pick 4 rfl Vw.row | exact Vw.pick 5 rfl Vw.row | exact Vw.pick 6 rfl Vw.row | exact Vw.pick 7 rfl Vw.row | exact Vw.nil _ | exact Vw.empty _ _) (by omega)))) rfl ?_
        rintro _ H' ⟨_, ⟨rfl, rfl⟩, hH⟩
        simp only [List.cons_append, List.nil_append, List.eraseIdx_cons_zero, List.eraseIdx_cons_succ, List.set_cons_zero, List.set_cons_succ] at hH
        subst hH
        rw [hRF.l3]
        dsimp only
        refine ops_ro' rfl (ro_move rfl) rfl ?_
        refine ops_ro' rfl (ro_extract rfl rfl) rfl ?_
        refine ops_ro' rfl (ro_extract rfl rfl) rfl ?_
        refine ops_ro' rfl (ro_assign rfl) rfl ?_
        refine ops_ro' rfl (ro_assign rfl) rfl ?_
        refine ops_nil ?_
        refine Then_normal ?_
        refine wp_seq' ?_
        refine wp_region' ?_
        refine ops_ro' rfl (ro_move rfl) rfl ?_
        refine ops_ro' rfl (ro_move rfl) rfl ?_
        refine ops_eff' rfl (eff_callM (Pre := []) Try.call23 rfl rfl (Split.nil _) (tri_argc (by rw [ht3, htb]) (look_spec (by first | exact Tv.pick 0 rfl (tree_tv t3) | exact Tv.pick 1 rfl (tree_tv t3) | exact Tv.pick 2 rfl (tree_tv t3) | exact Tv.pick 3 rfl (tree_tv t3) | exact Tv.pick 4 rfl (tree_tv t3) | exact Tv.pick 5 rfl (tree_tv t3) | exact Tv.pick 6 rfl (tree_tv t3)) hW3 _ _ F (by first | exact (Vw.pick 0 rfl Vw.row) | exact (Vw.pick 1 rfl Vw.row) | exact (Vw.pick 2 rfl Vw.row) | exact (Vw.pick 3 rfl Vw.row) | exact (Vw.pick 4 rfl Vw.row) | exact (Vw.pick 5 rfl Vw.row) | exact (Vw.pick 6 rfl Vw.row) | exact (Vw.pick 7 rfl Vw.row) | exact Vw.pick 0 rfl Vw.row | exact Vw.pick 1 rfl Vw.row | exact Vw.pick 2 rfl Vw.row | exact Vw.pick 3 rfl Vw.row | exact Vw.pick 4 rfl Vw.row | exact Vw.pick 5 rfl Vw.row | exact Vw.pick 6 rfl Vw.row | exact Vw.pick 7 rfl Vw.row | exact Vw.nil _ | exact Vw.empty _ _) (by omega)))) rfl ?_
        rintro _ H' ⟨_, ⟨rfl, rfl⟩, hH⟩
        simp only [List.cons_append, List.nil_append, List.eraseIdx_cons_zero, List.eraseIdx_cons_succ, List.set_cons_zero, List.set_cons_succ] at hH
        subst hH
        rw [hRF.l4]
        dsimp only
        refine ops_ro' rfl (ro_move rfl) rfl ?_
        refine ops_ro' rfl (ro_extract rfl rfl) rfl ?_
        refine ops_ro' rfl (ro_extract rfl rfl) rfl ?_
        refine ops_ro' rfl (ro_assign rfl) rfl ?_
        refine ops_ro' rfl (ro_assign rfl) rfl ?_
        refine ops_nil ?_
        refine Then_normal ?_
        refine wp_cutK 1023 (fun Δ LL => ∃ (b24 : Nat), Δ = [(24, .pointer (some ⟨b24, 0, none⟩)), (25, .int .i64 e3)] ∧ LL = [own b24 (.cells (a3).cs.toArray 40 (0, 0)), tree t3, row 9 1 (.slice p58 (F).length c58) (F).length (txs (F)), row 9 1 (.slice p60 (G).length c60) (G).length (txs (G)), row 93 8 (.slice p82 (l4).length c82) (l4).length (flat Nm.cs (l4)), own b14 (.cells (a3).cs.toArray 40 (0, 0)), V]) (Has.cons (k := 1) rfl (Has.cons (k := 2) rfl (Has.cons (k := 7) rfl (Has.cons (k := 10) rfl (Has.cons (k := 11) rfl (Has.cons (k := 13) rfl (Has.cons (k := 14) rfl (Has.cons (k := 16) rfl (Has.cons (k := 18) rfl (Has.cons (k := 20) rfl (Has.cons (k := 21) rfl (Has.cons (k := 23) rfl (Has.nil _))))))))))))) ?_ ?_
        · refine wp_region' ?_
          refine ops_ro' rfl (ro_move rfl) rfl ?_
          refine ops_ro' rfl (ro_move rfl) rfl ?_
          refine ops_eff' rfl (eff_callM (Pre := []) Try.call17 rfl rfl (Split.nil _) (tri_argc (by rw [ht3, htb]) (attrs_spec (by first | exact Tv.pick 0 rfl (tree_tv t3) | exact Tv.pick 1 rfl (tree_tv t3) | exact Tv.pick 2 rfl (tree_tv t3) | exact Tv.pick 3 rfl (tree_tv t3) | exact Tv.pick 4 rfl (tree_tv t3) | exact Tv.pick 5 rfl (tree_tv t3) | exact Tv.pick 6 rfl (tree_tv t3)) (x.id : Int) hdl4))) rfl ?_
          rintro _ H' ⟨_, ⟨rfl, rfl⟩, hH⟩
          simp only [List.cons_append, List.nil_append, List.eraseIdx_cons_zero, List.eraseIdx_cons_succ, List.set_cons_zero, List.set_cons_succ] at hH
          subst hH
          rw [hRF.att, hz3]
          dsimp only
          refine ops_ro' rfl (ro_move rfl) rfl ?_
          refine ops_ro' rfl (ro_extract rfl rfl) rfl ?_
          refine ops_ro' rfl (ro_extract rfl rfl) rfl ?_
          refine ops_eff' rfl (eff_alloc z40) rfl ?_
          rintro _ _ ⟨b24, rfl, rfl⟩
          refine ops_eff0 rfl (eff_storeA 0 ag40 rfl rfl rfl rfl rfl (Nat.le_of_ble_eq_true rfl) (warm_zero _)) rfl ?_
          rintro _ _ rfl
          simp only [List.set_cons_zero, List.set_cons_succ]
          refine ops_ro' rfl (ro_assign rfl) rfl ?_
          refine ops_nil ?_
          refine Then_normal ?_
          refine over_cut (kept ⟨b24, rfl, rfl⟩ ?_ ?_ ?_)
          · exact (by repeat (first | exact Has.nil _ | refine Has.cons rfl ?_))
          · exact (by repeat (first | exact Has.nil _ | refine Has.cons rfl ?_))
          · exact SubH.refl _
        · rintro Δ LL ⟨b24, rfl, rfl⟩
          simp only [List.cons_append, List.nil_append]
          refine wp_seq' ?_
          refine wp_region' ?_
          refine ops_ro' rfl (ro_move rfl) rfl ?_
          refine ops_ro' rfl (ro_move rfl) rfl ?_
          refine ops_eff' rfl (eff_callM (Pre := []) Try.call24 rfl rfl (Split.nil _) (tri_argc (by rw [ht3, htb]) (list_spec (by first | exact Tv.pick 0 rfl (tree_tv t3) | exact Tv.pick 1 rfl (tree_tv t3) | exact Tv.pick 2 rfl (tree_tv t3) | exact Tv.pick 3 rfl (tree_tv t3) | exact Tv.pick 4 rfl (tree_tv t3) | exact Tv.pick 5 rfl (tree_tv t3) | exact Tv.pick 6 rfl (tree_tv t3)) hW3 (x.id : Int) hdl4))) rfl ?_
          rintro _ H' ⟨_, ⟨p123, c123, rfl, rfl⟩, hH⟩
          simp only [List.cons_append, List.nil_append, List.eraseIdx_cons_zero, List.eraseIdx_cons_succ, List.set_cons_zero, List.set_cons_succ] at hH
          subst hH
          rw [hRF.lst, hz4]
          dsimp only
          refine ops_ro' rfl (ro_move rfl) rfl ?_
          refine ops_ro' rfl (ro_extract rfl rfl) rfl ?_
          refine ops_ro' rfl (ro_extract rfl rfl) rfl ?_
          refine ops_ro' rfl (ro_assign rfl) rfl ?_
          refine ops_ro' rfl (ro_assign rfl) rfl ?_
          refine ops_nil ?_
          refine Then_normal ?_
          refine wp_seq' ?_
          refine wp_seq' ?_
          have hll : l4.length ≤ 140737488355328 := list_len hW hz4
          refine wp_region' ?_
          refine ops_ro' rfl (ro_move rfl) rfl ?_
          refine ops_ro' rfl (ro_neq rfl rfl (decide_eq_false (by omega))) rfl ?_
          refine ops_ro' rfl (ro_move (v := .bool false) rfl) rfl ?_
          refine ops_ro' rfl (ro_move rfl) rfl ?_
          refine ops_ro' rfl (ro_neq rfl rfl (decide_eq_false (by omega))) rfl ?_
          refine ops_ro' rfl (ro_pick rfl rfl) rfl ?_
          refine ops_ro' rfl (ro_move (v := .bool false) rfl) rfl ?_
          refine ops_ro' rfl (ro_move rfl) rfl ?_
          refine ops_ro' rfl (ro_neq rfl rfl (decide_eq_false (by omega))) rfl ?_
          refine ops_ro' rfl (ro_pick rfl rfl) rfl ?_
          refine ops_ro' rfl (ro_move (v := .bool false) rfl) rfl ?_
          refine ops_ro' rfl (ro_move rfl) rfl ?_
          refine ops_ro' rfl (ro_neq rfl rfl (decide_eq_false (by omega))) rfl ?_
          refine ops_ro' rfl (ro_pick rfl rfl) rfl ?_
          refine ops_ro' rfl (ro_move (v := .bool false) rfl) rfl ?_
          refine ops_ro' rfl (ro_move rfl) rfl ?_
          refine ops_ro' rfl (ro_move rfl) rfl ?_
          refine ops_ro' rfl (ro_neq rfl rfl (decide_eq_false (by omega))) rfl ?_
          refine ops_ro' rfl (ro_pick rfl rfl) rfl ?_
          refine ops_ro' rfl (ro_move (v := .bool false) rfl) rfl ?_
          refine ops_ro' rfl (ro_loadA ag40 rfl (RdN.of_pick 6 rfl rdn_all) rfl) rfl ?_
          refine ops_ro' rfl (ro_loadA ag40 rfl (RdN.of_pick 1 rfl rdn_all) rfl) rfl ?_
          refine ops_ro' rfl (ro_attrNe rfl rfl (c := false) (by simp)) rfl ?_
          refine ops_ro' rfl (ro_pick rfl rfl) rfl ?_
          refine ops_ro' rfl (ro_move (v := .bool false) rfl) rfl ?_
          refine ops_ro' rfl (ro_move rfl) rfl ?_
          refine ops_ro' rfl (ro_move rfl) rfl ?_
          refine ops_eff' rfl (eff_callM (Pre := []) Try.call27 rfl rfl (Split.nil _) (knames_spec _ l4 l4 _ _ _ _ (by first | exact (Vw.pick 0 rfl Vw.row) | exact (Vw.pick 1 rfl Vw.row) | exact (Vw.pick 2 rfl Vw.row) | exact (Vw.pick 3 rfl Vw.row) | exact (Vw.pick 4 rfl Vw.row) | exact (Vw.pick 5 rfl Vw.row) | exact (Vw.pick 6 rfl Vw.row) | exact (Vw.pick 7 rfl Vw.row) | exact Vw.pick 0 rfl Vw.row | exact Vw.pick 1 rfl Vw.row | exact Vw.pick 2 rfl Vw.row | exact Vw.pick 3 rfl Vw.row | exact Vw.pick 4 rfl Vw.row | exact Vw.pick 5 rfl Vw.row | exact Vw.pick 6 rfl Vw.row | exact Vw.pick 7 rfl Vw.row | exact Vw.nil _ | exact Vw.empty _ _) (by first | exact (Vw.pick 0 rfl Vw.row) | exact (Vw.pick 1 rfl Vw.row) | exact (Vw.pick 2 rfl Vw.row) | exact (Vw.pick 3 rfl Vw.row) | exact (Vw.pick 4 rfl Vw.row) | exact (Vw.pick 5 rfl Vw.row) | exact (Vw.pick 6 rfl Vw.row) | exact (Vw.pick 7 rfl Vw.row) | exact Vw.pick 0 rfl Vw.row | exact Vw.pick 1 rfl Vw.row | exact Vw.pick 2 rfl Vw.row | exact Vw.pick 3 rfl Vw.row | exact Vw.pick 4 rfl Vw.row | exact Vw.pick 5 rfl Vw.row | exact Vw.pick 6 rfl Vw.row | exact Vw.pick 7 rfl Vw.row | exact Vw.nil _ | exact Vw.empty _ _) hll)) rfl ?_
          rintro _ H' ⟨_, ⟨rfl, rfl⟩, hH⟩
          simp only [List.cons_append, List.nil_append, List.eraseIdx_cons_zero, List.eraseIdx_cons_succ, List.set_cons_zero, List.set_cons_succ] at hH
          subst hH
          try rw [decide_eq_true rfl]
          refine ops_ro' rfl (ro_not rfl rfl) rfl ?_
          refine ops_ro' rfl (ro_pick rfl rfl) rfl ?_
          refine ops_nil ?_
          refine Then_normal ?_
          refine wp_condF rfl ?_
          refine wp_skip' ?_
          refine Then_normal ?_
          refine wp_seq' ?_
          refine wp_sub' (L := [tree t3, row 9 1 (.slice p58 (F).length c58) (F).length (txs (F)), row 9 1 (.slice p60 (G).length c60) (G).length (txs (G)), V]) (by repeat (first | exact SubH.nil _ | refine SubH.cons 0 rfl ?_ | refine SubH.cons 1 rfl ?_ | refine SubH.cons 2 rfl ?_ | refine SubH.cons 3 rfl ?_ | refine SubH.cons 4 rfl ?_ | refine SubH.cons 5 rfl ?_ | refine SubH.cons 6 rfl ?_ | refine SubH.cons 7 rfl ?_ | refine SubH.cons 8 rfl ?_ | refine SubH.cons 9 rfl ?_ | refine SubH.cons 10 rfl ?_ | refine SubH.cons 11 rfl ?_ | refine SubH.cons 12 rfl ?_ | refine SubH.cons 13 rfl ?_ | refine SubH.rown ?_)) ?_
          refine wp_region' ?_
          refine ops_ro' rfl (ro_move rfl) rfl ?_
          refine ops_ro' rfl (ro_move rfl) rfl ?_
          refine ops_ro' rfl (ro_move rfl) rfl ?_
          refine ops_eff' rfl (eff_callM (Pre := [_]) Try.call26 rfl rfl (by repeat (first | exact Split.nil _ | apply Split.cons 0 rfl | apply Split.cons 1 rfl | apply Split.cons 2 rfl | apply Split.cons 3 rfl | apply Split.cons 4 rfl | apply Split.cons 5 rfl | apply Split.cons 6 rfl | apply Split.cons 7 rfl | apply Split.cons 8 rfl | apply Split.cons 9 rfl | apply Split.cons 10 rfl | apply Split.cons 11 rfl)) (tri_argc (by rw [ht3, htb]) (renameK_spec hW3 _ _ G (by first | exact (Vw.pick 0 rfl Vw.row) | exact (Vw.pick 1 rfl Vw.row) | exact (Vw.pick 2 rfl Vw.row) | exact (Vw.pick 3 rfl Vw.row) | exact (Vw.pick 4 rfl Vw.row) | exact (Vw.pick 5 rfl Vw.row) | exact (Vw.pick 6 rfl Vw.row) | exact (Vw.pick 7 rfl Vw.row) | exact Vw.pick 0 rfl Vw.row | exact Vw.pick 1 rfl Vw.row | exact Vw.pick 2 rfl Vw.row | exact Vw.pick 3 rfl Vw.row | exact Vw.pick 4 rfl Vw.row | exact Vw.pick 5 rfl Vw.row | exact Vw.pick 6 rfl Vw.row | exact Vw.pick 7 rfl Vw.row | exact Vw.nil _ | exact Vw.empty _ _) hcG (by omega) _ _ F (by first | exact (Vw.pick 0 rfl Vw.row) | exact (Vw.pick 1 rfl Vw.row) | exact (Vw.pick 2 rfl Vw.row) | exact (Vw.pick 3 rfl Vw.row) | exact (Vw.pick 4 rfl Vw.row) | exact (Vw.pick 5 rfl Vw.row) | exact (Vw.pick 6 rfl Vw.row) | exact (Vw.pick 7 rfl Vw.row) | exact Vw.pick 0 rfl Vw.row | exact Vw.pick 1 rfl Vw.row | exact Vw.pick 2 rfl Vw.row | exact Vw.pick 3 rfl Vw.row | exact Vw.pick 4 rfl Vw.row | exact Vw.pick 5 rfl Vw.row | exact Vw.pick 6 rfl Vw.row | exact Vw.pick 7 rfl Vw.row | exact Vw.nil _ | exact Vw.empty _ _) hcF (by omega) (by omega)))) rfl ?_
          rintro _ H' ⟨_, ⟨t4, r4, e6, rfl, hR4, hW4, ht4, hn4, rfl⟩, hH⟩
          simp only [List.cons_append, List.nil_append, List.eraseIdx_cons_zero, List.eraseIdx_cons_succ, List.set_cons_zero, List.set_cons_succ] at hH
          subst hH
          obtain rfl : e6 = 0 := ren_ok hR4 hRF.back
          obtain ⟨hsm, hnx4⟩ := hRF.same _ _ _ hR4 rfl
          refine ops_ro' rfl (ro_eql rfl rfl (decide_eq_true (by omega))) rfl ?_
          refine ops_ro' rfl (ro_move (v := .bool true) rfl) rfl ?_
          refine ops_ro' rfl (ro_move rfl) rfl ?_
          refine ops_eff' rfl (eff_callM (Pre := []) Try.call25 rfl rfl (Split.nil _) (tri_argc (by rw [ht4, ht3, htb]) (save_spec (by first | exact Tv.pick 0 rfl (tree_tv t4) | exact Tv.pick 1 rfl (tree_tv t4) | exact Tv.pick 2 rfl (tree_tv t4) | exact Tv.pick 3 rfl (tree_tv t4) | exact Tv.pick 4 rfl (tree_tv t4) | exact Tv.pick 5 rfl (tree_tv t4) | exact Tv.pick 6 rfl (tree_tv t4)) hW4 (by omega)))) rfl ?_
          rintro _ H' ⟨_, ⟨sb2, p163, c163, rfl, hS2, hsl2, rfl⟩, hH⟩
          simp only [List.cons_append, List.nil_append, List.eraseIdx_cons_zero, List.eraseIdx_cons_succ, List.set_cons_zero, List.set_cons_succ] at hH
          subst hH
          obtain rfl := save_co hW4 hW hsm hnx4 hS2 hS1
          refine ops_ro' rfl (ro_toStr Try.underlying30 Try.underlying5 Try.underlying9 rfl (Vw.pick 0 rfl Vw.row) rfl) rfl ?_
          refine ops_ro' rfl (ro_move rfl) rfl ?_
          refine ops_ro' rfl (ro_eqlS rfl rfl (decide_eq_true rfl)) rfl ?_
          refine ops_ro' rfl (ro_pick rfl rfl) rfl ?_
          refine ops_ro' rfl (ro_move (v := .bool true) rfl) rfl ?_
          refine ops_eff' rfl (eff_call Try.call18 rfl rfl (by repeat (first | exact Split.nil _ | apply Split.cons 0 rfl | apply Split.cons 1 rfl | apply Split.cons 2 rfl | apply Split.cons 3 rfl | apply Split.cons 4 rfl | apply Split.cons 5 rfl | apply Split.cons 6 rfl | apply Split.cons 7 rfl | apply Split.cons 8 rfl | apply Split.cons 9 rfl | apply Split.cons 10 rfl | apply Split.cons 11 rfl)) (known15_spec)) rfl ?_
          rintro _ H' ⟨_, ⟨rfl, rfl⟩, hH⟩
          simp only [List.cons_append, List.nil_append, List.eraseIdx_cons_zero, List.eraseIdx_cons_succ, List.set_cons_zero, List.set_cons_succ] at hH
          subst hH
          refine ops_ro' rfl (ro_pick rfl rfl) rfl ?_
          refine ops_ro' rfl (ro_assign rfl) rfl ?_
          refine ops_nil ?_
          refine Then_normal ?_
          refine wp_ret' ?_
          refine' doneS_ret (res1 rfl rfl) ?_ ?_
          rotate_left 1
          exact ⟨rfl, rfl⟩
          exact (SubH.cons 4 rfl (SubH.nil _))

end Go.Proofs.Ytbbmhppkhcodfaa
