/-
  Package fsm: Do.
  Package fsm: New, Open, Drop.
  Package fsm: Open, Drop.
  Law 16: requests made tame, small.
-/
import Derived.Test.YtlefpllcgcicpaaGreatDoorFsI
import Derived.Test.YtlefpllcgcicpaaGreatDoorTrK
import Derived.Test.YtlefpllcgcicpaaGreatDoorWire
import Derived.Test.YtlefpllcgcicpaaGreatDoorSxFork
namespace Go.Proofs.YtlefpllcgcicpaaGreatDoor
open Go.Sx
set_option linter.unusedVariables false
set_option linter.unusedSimpArgs false
set_option maxRecDepth 100000
set_option maxHeartbeats 4000000

theorem frenK_spec {V : HProp} {t : Tr} {r : Nd} (hW : Wf t r) (q : Option Addr) (cq : Nat) (fr : List (List UInt8)) (hV1 : Vw V (.slice q fr.length cq) fr.length (txs fr)) (hcq : fr.length ≤ cq) (hlf : fr.length ≤ 100000) (q2 : Option Addr) (cq2 : Nat) (tq : List (List UInt8)) (hV2 : Vw V (.slice q2 tq.length cq2) tq.length (txs tq)) (hcq2 : tq.length ≤ cq2) (hlt : tq.length ≤ 100000) (hln : (lastN tq).length ≤ 9223372036854775807) :
    Tri Tryz.prog 37 [t.v, .slice q fr.length cq, .slice q2 tq.length cq2] [tree t, V] (fun v H' => ∃ K, (∃ t' r' e, v = .int .i64 e ∧ RenR t r fr tq t' r' e ∧ Wf t' r' ∧ t'.tb = t.tb ∧ t'.next = t.next ∧ K = [tree t']) ∧ H' = K ++ [V]) := by
  refine tri_post (rename_spec hW q cq fr hV1 hcq hlf q2 cq2 tq hV2 hcq2 hlt hln) ?_
  rintro v H' ⟨t', r', e, h1, h2, h3, h4, h5, h6⟩
  exact ⟨[tree t'], ⟨t', r', e, h1, h2, h3, h4, h5, rfl⟩, h6⟩
section
variable {t t' : Tr} {r : Nd} {hs hs' : List Hd} {s : Nat} {q : Qr} {k : Rk} {pp : List (List UInt8) × Int}
theorem do_by (h : s < 16) (hb : byH q.kind ∧ byR t r hs s q t' hs' k) : doR t r hs s q t' hs' k := by
  unfold doR
  rw [if_neg (by omega), if_pos hb.1, Int.toNat_natCast]; exact hb.2
theorem do_none (h : s < 16) (hb : ¬ byH q.kind) (h7 : q.kind < 7 ∨ 18 < q.kind) : doR t r hs s q t hs (Rk.stat 8) := by
  unfold doR
  rw [if_neg (by omega), if_neg hb, if_pos h7]; exact ⟨rfl, rfl, rfl⟩
theorem do_right (h : s < 16) (hb : ¬ byH q.kind) (h7 : ¬ (q.kind < 7 ∨ 18 < q.kind)) (h14 : q.kind = 14) (hr : q.a.right = false) : doR t r hs s q t hs (Rk.stat 4) := by
  unfold doR
  rw [if_neg (by omega), if_neg hb, if_neg h7, if_pos ⟨h14, hr⟩]; exact ⟨rfl, rfl, rfl⟩
theorem do_split (h : s < 16) (hb : ¬ byH q.kind) (h7 : ¬ (q.kind < 7 ∨ 18 < q.kind)) (h14 : ¬ (q.kind = 14 ∧ q.a.right = false)) (hpp : pSplit q.path = pp) (hpe : pp.2 ≠ 0) : doR t r hs s q t hs (ofK pp.2) := by
  unfold doR
  rw [if_neg (by omega), if_neg hb, if_neg h7, if_neg h14, hpp, if_pos hpe]; exact ⟨rfl, rfl, rfl⟩
theorem do_path (h : s < 16) (hb : ¬ byH q.kind) (h7 : ¬ (q.kind < 7 ∨ 18 < q.kind)) (h14 : ¬ (q.kind = 14 ∧ q.a.right = false)) (hpp : pSplit q.path = pp) (hpe : pp.2 = 0) (hp : pathR t r q pp.1 t' k) : doR t r hs s q t' hs k := by
  unfold doR
  rw [if_neg (by omega), if_neg hb, if_neg h7, if_neg h14, hpp, if_neg (by omega)]; exact ⟨rfl, hp⟩
end
theorem do16_spec {V : HProp} {mb tb : Nat} {t : Tr} {hs : List Hd} {r : Nd} (hW : Wf t r) (htb : t.tb = tb) (hH : HsOk hs) (s : Int) (q : Qr) (hq : q.Ok) (hP : Ml V) (hnx : t.next ≤ 9223372036854775806) (hD : Vw V (.slice q.dp q.data.length q.dc) q.data.length (cel q.data)) : Tri Tryz.prog 12 [.pointer (some ⟨mb, 0, none⟩), .int .i64 s, q.v] [oMa mb tb hs, tree t, St (hs.map rowN), V]
    (fun v H' => ∃ t' hs' k dp dc np nc, v = (k.rep dp dc np nc).v ∧ doR t r hs s q t' hs' k ∧ (∃ r', Wf t' r') ∧ t'.tb = tb ∧ t'.next ≤ t.next + 1 ∧ HsOk hs' ∧ H' = [rowD dp dc k.data, rowNm np nc k.names, oMa mb tb hs', tree t', St (hs'.map rowN), V]) := by
  by_cases hb : s < 0 ∨ 16 ≤ s
  · skip
    refine tri_of_wpS Tryz.func12 rfl Tryz.ntmps12 (by simp) ?_
    refine wp_seq' ?_
    refine wp_region' ?_
    refine ops_eff' rfl (eff_box rfl) rfl ?_
    rintro _ _ ⟨b5, rfl, rfl⟩
    refine ops_eff' rfl (eff_alloc z32) rfl ?_
    rintro _ _ ⟨b6, rfl, rfl⟩
    refine ops_nil ?_
    refine Then_normal ?_
    refine wp_seq' ?_
    refine wp_seq' ?_
    refine wp_region' ?_
    refine ops_ro' rfl (ro_move rfl) rfl ?_
    refine ops_ro' rfl (ro_lss rfl rfl rfl) rfl ?_
    refine ops_split rfl rfl rfl (fun hg19 => ?_) (fun hg19 => ?_)
    · replace hg19 := of_decide_eq_true hg19
      refine ops_skip' rfl rfl ?_
      refine ops_skip' rfl rfl ?_
      refine ops_ro' rfl (ro_pick rfl rfl) rfl ?_
      refine ops_nil ?_
      refine Then_normal ?_
      refine wp_condT rfl ?_
      refine wp_seq' ?_
      refine wp_region' ?_
      refine ops_eff' rfl (eff_call Tryz.call28 rfl rfl (by repeat (first | exact Split.nil _ | apply Split.cons 0 rfl | apply Split.cons 1 rfl | apply Split.cons 2 rfl | apply Split.cons 3 rfl | apply Split.cons 4 rfl | apply Split.cons 5 rfl | apply Split.cons 6 rfl | apply Split.cons 7 rfl | apply Split.cons 8 rfl | apply Split.cons 9 rfl | apply Split.cons 10 rfl | apply Split.cons 11 rfl)) (status_spec 4)) rfl ?_
      rintro _ H' ⟨_, ⟨rfl, rfl⟩, hH⟩
      simp only [List.cons_append, List.nil_append, List.eraseIdx_cons_zero, List.eraseIdx_cons_succ, List.set_cons_zero, List.set_cons_succ] at hH
      subst hH
      first | refine ops_heap (fun w F sw => rep_rows (dry_stat 4) sw) ?_ | refine any_heap (fun w F sw => rep_rows (dry_stat 4) sw) ?_
      refine ops_eff0 rfl (eff_storeA 2 ag32 rfl rfl rfl rfl rfl (Nat.le_of_ble_eq_true rfl) (warm_zero _)) rfl ?_
      rintro _ _ rfl
      simp only [List.set_cons_zero, List.set_cons_succ]
      refine ops_nil ?_
      refine Then_normal ?_
      refine wp_ret' ?_
      refine Then_ret ?_
      refine' doneS_ret (resv1 rfl (rv_cellA ag32 rfl (by first | exact RdN.of_pick 0 rfl rdn_all | exact RdN.of_pick 1 rfl rdn_all | exact RdN.of_pick 2 rfl rdn_all | exact RdN.of_pick 3 rfl rdn_all | exact RdN.of_pick 4 rfl rdn_all | exact RdN.of_pick 5 rfl rdn_all | exact RdN.of_pick 6 rfl rdn_all | exact RdN.of_pick 7 rfl rdn_all | exact RdN.of_pick 8 rfl rdn_all) rfl)) ?_ ?_
      rotate_left 1
      exact ⟨t, hs, Rk.stat 4, none, 0, none, 0, rfl, (by unfold doR; rw [if_pos hb]; exact ⟨rfl, rfl, rfl⟩), ⟨r, hW⟩, htb, by omega, hH, rfl⟩
      exact (SubH.cons 0 rfl (SubH.cons 0 rfl (SubH.cons 2 rfl (SubH.cons 2 rfl (SubH.cons 2 rfl (SubH.cons 2 rfl (SubH.nil _)))))))
    · replace hg19 := of_decide_eq_false hg19
      refine ops_ro' rfl (ro_move rfl) rfl ?_
      refine ops_ro' rfl (ro_geq rfl rfl (decide_eq_true (by omega))) rfl ?_
      refine ops_ro' rfl (ro_pick rfl rfl) rfl ?_
      refine ops_nil ?_
      refine Then_normal ?_
      refine wp_condT rfl ?_
      refine wp_seq' ?_
      refine wp_region' ?_
      refine ops_eff' rfl (eff_call Tryz.call28 rfl rfl (by repeat (first | exact Split.nil _ | apply Split.cons 0 rfl | apply Split.cons 1 rfl | apply Split.cons 2 rfl | apply Split.cons 3 rfl | apply Split.cons 4 rfl | apply Split.cons 5 rfl | apply Split.cons 6 rfl | apply Split.cons 7 rfl | apply Split.cons 8 rfl | apply Split.cons 9 rfl | apply Split.cons 10 rfl | apply Split.cons 11 rfl)) (status_spec 4)) rfl ?_
      rintro _ H' ⟨_, ⟨rfl, rfl⟩, hH⟩
      simp only [List.cons_append, List.nil_append, List.eraseIdx_cons_zero, List.eraseIdx_cons_succ, List.set_cons_zero, List.set_cons_succ] at hH
      subst hH
      first | refine ops_heap (fun w F sw => rep_rows (dry_stat 4) sw) ?_ | refine any_heap (fun w F sw => rep_rows (dry_stat 4) sw) ?_
      refine ops_eff0 rfl (eff_storeA 2 ag32 rfl rfl rfl rfl rfl (Nat.le_of_ble_eq_true rfl) (warm_zero _)) rfl ?_
      rintro _ _ rfl
      simp only [List.set_cons_zero, List.set_cons_succ]
      refine ops_nil ?_
      refine Then_normal ?_
      refine wp_ret' ?_
      refine Then_ret ?_
      refine' doneS_ret (resv1 rfl (rv_cellA ag32 rfl (by first | exact RdN.of_pick 0 rfl rdn_all | exact RdN.of_pick 1 rfl rdn_all | exact RdN.of_pick 2 rfl rdn_all | exact RdN.of_pick 3 rfl rdn_all | exact RdN.of_pick 4 rfl rdn_all | exact RdN.of_pick 5 rfl rdn_all | exact RdN.of_pick 6 rfl rdn_all | exact RdN.of_pick 7 rfl rdn_all | exact RdN.of_pick 8 rfl rdn_all) rfl)) ?_ ?_
      rotate_left 1
      exact ⟨t, hs, Rk.stat 4, none, 0, none, 0, rfl, (by unfold doR; rw [if_pos hb]; exact ⟨rfl, rfl, rfl⟩), ⟨r, hW⟩, htb, by omega, hH, rfl⟩
      exact (SubH.cons 0 rfl (SubH.cons 0 rfl (SubH.cons 2 rfl (SubH.cons 2 rfl (SubH.cons 2 rfl (SubH.cons 2 rfl (SubH.nil _)))))))
  · obtain ⟨s, rfl⟩ : ∃ s' : Nat, s = (s' : Int) := ⟨s.toNat, by omega⟩
    have hs16 : s < 16 := by omega
    refine tri_of_wpS Tryz.func12 rfl Tryz.ntmps12 (by simp) ?_
    refine wp_seq' ?_
    refine wp_region' ?_
    refine ops_eff' rfl (eff_box rfl) rfl ?_
    rintro _ _ ⟨b5, rfl, rfl⟩
    refine ops_eff' rfl (eff_alloc z32) rfl ?_
    rintro _ _ ⟨b6, rfl, rfl⟩
    refine ops_nil ?_
    refine Then_normal ?_
    refine wp_seq' ?_
    refine wp_seq' ?_
    refine wp_region' ?_
    refine ops_ro' rfl (ro_move rfl) rfl ?_
    refine ops_ro' rfl (ro_lss rfl rfl (decide_eq_false (by omega))) rfl ?_
    refine ops_ro' rfl (ro_move (v := .bool false) rfl) rfl ?_
    refine ops_ro' rfl (ro_move rfl) rfl ?_
    refine ops_ro' rfl (ro_geq rfl rfl (decide_eq_false (by omega))) rfl ?_
    refine ops_ro' rfl (ro_pick rfl rfl) rfl ?_
    refine ops_nil ?_
    refine Then_normal ?_
    refine wp_condF rfl ?_
    refine wp_skip' ?_
    refine Then_normal ?_
    refine wp_seq' ?_
    refine wp_cutK 1004 (fun Δ LL => ∃ (t1 : Tr) (hs1 : List Hd) (k1 : Rk) (dp1 : Option Addr) (dc1 : Nat) (np1 : Option Addr) (nc1 : Nat) (b1 : Bool) (b7 : Nat), (((b1 = true ∧ byH q.kind ∧ byR t r hs s q t1 hs1 k1) ∨ (b1 = false ∧ ¬ byH q.kind ∧ t1 = t ∧ hs1 = hs)) ∧ (∃ r', Wf t1 r') ∧ t1.tb = tb ∧ t1.next ≤ t.next + 1 ∧ HsOk hs1) ∧ Δ = [(7, .pointer (some ⟨b7, 0, none⟩)), (8, .bool b1)] ∧ LL = [own b6 (.cells ((Rk.rep ⟨0, 0, [], [], [], At.zero⟩ none 0 none 0).cs).toArray 32 (0, 0)), own b5 (.cells (q.cs).toArray 35 (0, 0)), own b7 (.cells ((k1.rep dp1 dc1 np1 nc1).cs).toArray 32 (0, 0)), rowD dp1 dc1 k1.data, rowNm np1 nc1 k1.names, oMa mb tb hs1, tree t1, St (hs1.map rowN), V]) (Has.cons (k := 0) rfl (Has.cons (k := 5) rfl (Has.cons (k := 6) rfl (Has.nil _)))) ?_ ?_
    · refine wp_region' ?_
      refine ops_ro' rfl (ro_move rfl) rfl ?_
      refine ops_ro' rfl (ro_move rfl) rfl ?_
      refine ops_ro' rfl (ro_loadA ag35 rfl (RdN.of_pick 1 rfl ((show RdN _ b5 0 q.cs from rdn_all))) rfl) rfl ?_
      refine ops_eff' rfl (eff_call Tryz.call29 rfl rfl (by repeat (first | exact Split.nil _ | apply Split.cons 0 rfl | apply Split.cons 1 rfl | apply Split.cons 2 rfl | apply Split.cons 3 rfl | apply Split.cons 4 rfl | apply Split.cons 5 rfl | apply Split.cons 6 rfl | apply Split.cons 7 rfl | apply Split.cons 8 rfl | apply Split.cons 9 rfl | apply Split.cons 10 rfl | apply Split.cons 11 rfl)) (byHandle_spec hW htb hH s hs16 q hq hP hnx hD)) rfl ?_
      rintro _ H' ⟨_, ⟨t1, hs1, k1, dp1, dc1, np1, nc1, b1, rfl, hB, hW1, htb1, hnx1, hH1, rfl⟩, hH⟩
      simp only [List.cons_append, List.nil_append, List.eraseIdx_cons_zero, List.eraseIdx_cons_succ, List.set_cons_zero, List.set_cons_succ] at hH
      subst hH
      refine ops_ro' rfl (ro_move rfl) rfl ?_
      refine ops_ro' rfl (ro_extract rfl rfl) rfl ?_
      refine ops_ro' rfl (ro_extract rfl rfl) rfl ?_
      refine ops_eff' rfl (eff_alloc z32) rfl ?_
      rintro _ _ ⟨b7, rfl, rfl⟩
      refine ops_eff0 rfl (eff_storeA 0 ag32 rfl rfl rfl rfl rfl (Nat.le_of_ble_eq_true rfl) (warm_zero _)) rfl ?_
      rintro _ _ rfl
      simp only [List.set_cons_zero, List.set_cons_succ]
      refine ops_ro' rfl (ro_assign rfl) rfl ?_
      refine ops_nil ?_
      refine Then_normal ?_
      refine over_cut (kept ⟨t1, hs1, k1, dp1, dc1, np1, nc1, b1, b7, ⟨hB, hW1, htb1, hnx1, hH1⟩, rfl, rfl⟩ ?_ ?_ ?_)
      · exact (by repeat (first | exact Has.nil _ | refine Has.cons rfl ?_))
      · exact (by repeat (first | exact Has.nil _ | refine Has.cons rfl ?_))
      · exact (SubH.cons 7 rfl (SubH.cons 7 rfl (SubH.cons 0 rfl (SubH.cons 0 rfl (SubH.cons 0 rfl (SubH.cons 0 rfl (SubH.cons 0 rfl (SubH.cons 0 rfl (SubH.cons 0 rfl (SubH.nil _))))))))))
    · rintro Δ LL ⟨t1, hs1, k1, dp1, dc1, np1, nc1, b1, b7, ⟨hB, hW1, htb1, hnx1, hH1⟩, rfl, rfl⟩
      simp only [List.cons_append, List.nil_append]
      refine wp_seq' ?_
      refine wp_region' ?_
      refine ops_ro' rfl (ro_move rfl) rfl ?_
      refine ops_nil ?_
      refine Then_normal ?_
      refine wp_cond' rfl (fun hc31 => ?_) (fun hc31 => ?_)
      · skip
        refine wp_seq' ?_
        refine wp_region' ?_
        refine ops_ro' rfl (ro_loadA ag32 rfl (RdN.of_pick 2 rfl rdn_all) rfl) rfl ?_
        refine ops_eff0 rfl (eff_storeA 0 ag32 rfl rfl rfl rfl rfl (Nat.le_of_ble_eq_true rfl) (warm_zero _)) rfl ?_
        rintro _ _ rfl
        simp only [List.set_cons_zero, List.set_cons_succ]
        refine ops_nil ?_
        refine Then_normal ?_
        refine wp_ret' ?_
        refine Then_ret ?_
        refine' doneS_ret (resv1 rfl (rv_cellA ag32 rfl (by first | exact RdN.of_pick 0 rfl rdn_all | exact RdN.of_pick 1 rfl rdn_all | exact RdN.of_pick 2 rfl rdn_all | exact RdN.of_pick 3 rfl rdn_all | exact RdN.of_pick 4 rfl rdn_all | exact RdN.of_pick 5 rfl rdn_all | exact RdN.of_pick 6 rfl rdn_all | exact RdN.of_pick 7 rfl rdn_all | exact RdN.of_pick 8 rfl rdn_all) rfl)) ?_ ?_
        rotate_left 1
        exact ⟨t1, hs1, k1, dp1, dc1, np1, nc1, rfl, do_by hs16 (by rcases hB with h | h; exact h.2; exact absurd (hc31.symm.trans h.1) (by decide)), hW1, htb1, hnx1, hH1, rfl⟩
        exact (SubH.cons 3 rfl (SubH.cons 3 rfl (SubH.cons 3 rfl (SubH.cons 3 rfl (SubH.cons 3 rfl (SubH.cons 3 rfl (SubH.nil _)))))))
      · skip
        obtain ⟨_, hnb, ht, hh⟩ : b1 = false ∧ ¬ byH q.kind ∧ t1 = t ∧ hs1 = hs := by
          rcases hB with h | h
          · exact absurd (hc31.symm.trans h.1) (by decide)
          · exact h
        obtain rfl : t = t1 := ht.symm
        obtain rfl : hs = hs1 := hh.symm
        have hdl := wf_dl2 hW
        refine wp_skip' ?_
        refine Then_normal ?_
        refine wp_seq' ?_
        refine wp_seq' ?_
        refine wp_region' ?_
        refine ops_ro' rfl (ro_fieldAddr fa35_0 rfl) rfl ?_
        refine ops_ro' rfl (ro_load sc3 rfl (Rd.pick 1 rfl (Rd.own rfl))) rfl ?_
        refine ops_ro' rfl (ro_lss rfl rfl rfl) rfl ?_
        refine ops_split rfl rfl rfl (fun hg36 => ?_) (fun hg36 => ?_)
        · replace hg36 := of_decide_eq_true hg36
          refine ops_skip' rfl rfl ?_
          refine ops_skip' rfl rfl ?_
          refine ops_skip' rfl rfl ?_
          refine ops_ro' rfl (ro_pick rfl rfl) rfl ?_
          refine ops_nil ?_
          refine Then_normal ?_
          refine wp_condT rfl ?_
          refine wp_seq' ?_
          refine wp_region' ?_
          refine ops_eff' rfl (eff_call Tryz.call28 rfl rfl (by repeat (first | exact Split.nil _ | apply Split.cons 0 rfl | apply Split.cons 1 rfl | apply Split.cons 2 rfl | apply Split.cons 3 rfl | apply Split.cons 4 rfl | apply Split.cons 5 rfl | apply Split.cons 6 rfl | apply Split.cons 7 rfl | apply Split.cons 8 rfl | apply Split.cons 9 rfl | apply Split.cons 10 rfl | apply Split.cons 11 rfl)) (status_spec 8)) rfl ?_
          rintro _ H' ⟨_, ⟨rfl, rfl⟩, hH⟩
          simp only [List.cons_append, List.nil_append, List.eraseIdx_cons_zero, List.eraseIdx_cons_succ, List.set_cons_zero, List.set_cons_succ] at hH
          subst hH
          first | refine ops_heap (fun w F sw => rep_rows (dry_stat 8) sw) ?_ | refine any_heap (fun w F sw => rep_rows (dry_stat 8) sw) ?_
          refine ops_eff0 rfl (eff_storeA 2 ag32 rfl rfl rfl rfl rfl (Nat.le_of_ble_eq_true rfl) (warm_zero _)) rfl ?_
          rintro _ _ rfl
          simp only [List.set_cons_zero, List.set_cons_succ]
          refine ops_nil ?_
          refine Then_normal ?_
          refine wp_ret' ?_
          refine Then_ret ?_
          refine' doneS_ret (resv1 rfl (rv_cellA ag32 rfl (by first | exact RdN.of_pick 0 rfl rdn_all | exact RdN.of_pick 1 rfl rdn_all | exact RdN.of_pick 2 rfl rdn_all | exact RdN.of_pick 3 rfl rdn_all | exact RdN.of_pick 4 rfl rdn_all | exact RdN.of_pick 5 rfl rdn_all | exact RdN.of_pick 6 rfl rdn_all | exact RdN.of_pick 7 rfl rdn_all | exact RdN.of_pick 8 rfl rdn_all) rfl)) ?_ ?_
          rotate_left 1
          exact ⟨t, hs, Rk.stat 8, none, 0, none, 0, (by first | rfl | (rw [← ofE_rep]; rfl)), (do_none hs16 hnb (by omega)), ⟨r, hW⟩, htb, by omega, hH, rfl⟩
          exact (SubH.cons 0 rfl (SubH.cons 0 rfl (SubH.cons 5 rfl (SubH.cons 5 rfl (SubH.cons 5 rfl (SubH.cons 5 rfl (SubH.nil _)))))))
        · replace hg36 := of_decide_eq_false hg36
          refine ops_ro' rfl (ro_fieldAddr fa35_0 rfl) rfl ?_
          refine ops_ro' rfl (ro_load sc3 rfl (Rd.pick 1 rfl (Rd.own rfl))) rfl ?_
          refine ops_ro' rfl (ro_gtr rfl rfl rfl) rfl ?_
          refine ops_ro' rfl (ro_pick rfl rfl) rfl ?_
          refine ops_nil ?_
          refine Then_normal ?_
          refine wp_cond' rfl (fun hc40 => ?_) (fun hc40 => ?_)
          · replace hc40 := of_decide_eq_true hc40
            refine wp_seq' ?_
            refine wp_region' ?_
            refine ops_eff' rfl (eff_call Tryz.call28 rfl rfl (by repeat (first | exact Split.nil _ | apply Split.cons 0 rfl | apply Split.cons 1 rfl | apply Split.cons 2 rfl | apply Split.cons 3 rfl | apply Split.cons 4 rfl | apply Split.cons 5 rfl | apply Split.cons 6 rfl | apply Split.cons 7 rfl | apply Split.cons 8 rfl | apply Split.cons 9 rfl | apply Split.cons 10 rfl | apply Split.cons 11 rfl)) (status_spec 8)) rfl ?_
            rintro _ H' ⟨_, ⟨rfl, rfl⟩, hH⟩
            simp only [List.cons_append, List.nil_append, List.eraseIdx_cons_zero, List.eraseIdx_cons_succ, List.set_cons_zero, List.set_cons_succ] at hH
            subst hH
            first | refine ops_heap (fun w F sw => rep_rows (dry_stat 8) sw) ?_ | refine any_heap (fun w F sw => rep_rows (dry_stat 8) sw) ?_
            refine ops_eff0 rfl (eff_storeA 2 ag32 rfl rfl rfl rfl rfl (Nat.le_of_ble_eq_true rfl) (warm_zero _)) rfl ?_
            rintro _ _ rfl
            simp only [List.set_cons_zero, List.set_cons_succ]
            refine ops_nil ?_
            refine Then_normal ?_
            refine wp_ret' ?_
            refine Then_ret ?_
            refine' doneS_ret (resv1 rfl (rv_cellA ag32 rfl (by first | exact RdN.of_pick 0 rfl rdn_all | exact RdN.of_pick 1 rfl rdn_all | exact RdN.of_pick 2 rfl rdn_all | exact RdN.of_pick 3 rfl rdn_all | exact RdN.of_pick 4 rfl rdn_all | exact RdN.of_pick 5 rfl rdn_all | exact RdN.of_pick 6 rfl rdn_all | exact RdN.of_pick 7 rfl rdn_all | exact RdN.of_pick 8 rfl rdn_all) rfl)) ?_ ?_
            rotate_left 1
            exact ⟨t, hs, Rk.stat 8, none, 0, none, 0, (by first | rfl | (rw [← ofE_rep]; rfl)), (do_none hs16 hnb (by omega)), ⟨r, hW⟩, htb, by omega, hH, rfl⟩
            exact (SubH.cons 0 rfl (SubH.cons 0 rfl (SubH.cons 5 rfl (SubH.cons 5 rfl (SubH.cons 5 rfl (SubH.cons 5 rfl (SubH.nil _)))))))
          · replace hc40 := of_decide_eq_false hc40
            have h7 : ¬ (q.kind < 7 ∨ 18 < q.kind) := by omega
            refine wp_skip' ?_
            refine Then_normal ?_
            refine wp_seq' ?_
            refine wp_seq' ?_
            refine wp_region' ?_
            refine ops_ro' rfl (ro_fieldAddr fa35_0 rfl) rfl ?_
            refine ops_ro' rfl (ro_load sc3 rfl (Rd.pick 1 rfl (Rd.own rfl))) rfl ?_
            refine ops_ro' rfl (ro_eql rfl rfl rfl) rfl ?_
            refine ops_split rfl rfl rfl (fun hg45 => ?_) (fun hg45 => ?_)
            · replace hg45 := of_decide_eq_true hg45
              refine ops_ro' rfl (ro_fieldAddr fa35_8 rfl) rfl ?_
              refine ops_ro' rfl (ro_loadA ag30 rfl (RdN.of_pick 1 rfl (rdn_sub 7)) rfl) rfl ?_
              refine ops_eff' rfl (eff_call Tryz.call30 rfl rfl (by repeat (first | exact Split.nil _ | apply Split.cons 0 rfl | apply Split.cons 1 rfl | apply Split.cons 2 rfl | apply Split.cons 3 rfl | apply Split.cons 4 rfl | apply Split.cons 5 rfl | apply Split.cons 6 rfl | apply Split.cons 7 rfl | apply Split.cons 8 rfl | apply Split.cons 9 rfl | apply Split.cons 10 rfl | apply Split.cons 11 rfl)) (right_spec q.a hq.a)) rfl ?_
              rintro _ H' ⟨_, ⟨rfl, rfl⟩, hH⟩
              simp only [List.cons_append, List.nil_append, List.eraseIdx_cons_zero, List.eraseIdx_cons_succ, List.set_cons_zero, List.set_cons_succ] at hH
              subst hH
              refine ops_ro' rfl (ro_not rfl rfl) rfl ?_
              refine ops_ro' rfl (ro_pick rfl rfl) rfl ?_
              refine ops_nil ?_
              refine Then_normal ?_
              refine wp_cond' rfl (fun hc50 => ?_) (fun hc50 => ?_)
              · simp only [Bool.and_eq_true, decide_eq_true_eq, Bool.not_eq_true', decide_eq_false_iff_not, bne_iff_ne, ne_eq] at hc50
                refine wp_seq' ?_
                refine wp_region' ?_
                refine ops_eff' rfl (eff_call Tryz.call28 rfl rfl (by repeat (first | exact Split.nil _ | apply Split.cons 0 rfl | apply Split.cons 1 rfl | apply Split.cons 2 rfl | apply Split.cons 3 rfl | apply Split.cons 4 rfl | apply Split.cons 5 rfl | apply Split.cons 6 rfl | apply Split.cons 7 rfl | apply Split.cons 8 rfl | apply Split.cons 9 rfl | apply Split.cons 10 rfl | apply Split.cons 11 rfl)) (status_spec 4)) rfl ?_
                rintro _ H' ⟨_, ⟨rfl, rfl⟩, hH⟩
                simp only [List.cons_append, List.nil_append, List.eraseIdx_cons_zero, List.eraseIdx_cons_succ, List.set_cons_zero, List.set_cons_succ] at hH
                subst hH
                first | refine ops_heap (fun w F sw => rep_rows (dry_stat 4) sw) ?_ | refine any_heap (fun w F sw => rep_rows (dry_stat 4) sw) ?_
                refine ops_eff0 rfl (eff_storeA 2 ag32 rfl rfl rfl rfl rfl (Nat.le_of_ble_eq_true rfl) (warm_zero _)) rfl ?_
                rintro _ _ rfl
                simp only [List.set_cons_zero, List.set_cons_succ]
                refine ops_nil ?_
                refine Then_normal ?_
                refine wp_ret' ?_
                refine Then_ret ?_
                refine' doneS_ret (resv1 rfl (rv_cellA ag32 rfl (by first | exact RdN.of_pick 0 rfl rdn_all | exact RdN.of_pick 1 rfl rdn_all | exact RdN.of_pick 2 rfl rdn_all | exact RdN.of_pick 3 rfl rdn_all | exact RdN.of_pick 4 rfl rdn_all | exact RdN.of_pick 5 rfl rdn_all | exact RdN.of_pick 6 rfl rdn_all | exact RdN.of_pick 7 rfl rdn_all | exact RdN.of_pick 8 rfl rdn_all) rfl)) ?_ ?_
                rotate_left 1
                exact ⟨t, hs, Rk.stat 4, none, 0, none, 0, (by first | rfl | (rw [← ofE_rep]; rfl)), (do_right hs16 hnb h7 (by omega) (by simp_all)), ⟨r, hW⟩, htb, by omega, hH, rfl⟩
                exact (SubH.cons 0 rfl (SubH.cons 0 rfl (SubH.cons 5 rfl (SubH.cons 5 rfl (SubH.cons 5 rfl (SubH.cons 5 rfl (SubH.nil _)))))))
              · simp only [Bool.and_eq_false_iff, decide_eq_false_iff_not, Bool.not_eq_false', decide_eq_true_eq] at hc50
                refine wp_skip' ?_
                refine Then_normal ?_
                refine wp_seq' ?_
                have hr14 : ¬ (q.kind = 14 ∧ q.a.right = false) := by rintro ⟨a1, a2⟩; first | omega | simp_all
                refine wp_region' ?_
                refine ops_ro' rfl (ro_fieldAddr fa35_1 rfl) rfl ?_
                refine ops_ro' rfl (ro_load sc9 rfl (Rd.pick 1 rfl (Rd.own rfl))) rfl ?_
                refine ops_eff' rfl (eff_call Tryz.call31 rfl rfl (by repeat (first | exact Split.nil _ | apply Split.cons 0 rfl | apply Split.cons 1 rfl | apply Split.cons 2 rfl | apply Split.cons 3 rfl | apply Split.cons 4 rfl | apply Split.cons 5 rfl | apply Split.cons 6 rfl | apply Split.cons 7 rfl | apply Split.cons 8 rfl | apply Split.cons 9 rfl | apply Split.cons 10 rfl | apply Split.cons 11 rfl)) (ptSplit_spec V hP q.path hq.path)) rfl ?_
                rintro _ H' ⟨_, ⟨_, ⟨p55, c55, rfl, rfl⟩, rfl⟩, hH⟩
                simp only [List.cons_append, List.nil_append, List.eraseIdx_cons_zero, List.eraseIdx_cons_succ, List.set_cons_zero, List.set_cons_succ] at hH
                subst hH
                have hfew := pSplit_few q.path
                have hlast := pSplit_last q.path
                have hall := pSplit_right q.path
                obtain ⟨pp, hpp⟩ : ∃ z, pSplit q.path = z := ⟨_, rfl⟩
                rw [hpp] at hfew hlast hall ⊢
                refine ops_ro' rfl (ro_move rfl) rfl ?_
                refine ops_ro' rfl (ro_extract rfl rfl) rfl ?_
                refine ops_ro' rfl (ro_extract rfl rfl) rfl ?_
                refine ops_ro' rfl (ro_assign rfl) rfl ?_
                refine ops_ro' rfl (ro_assign rfl) rfl ?_
                refine ops_nil ?_
                refine Then_normal ?_
                refine wp_seq' ?_
                refine wp_seq' ?_
                refine wp_region' ?_
                refine ops_ro' rfl (ro_move rfl) rfl ?_
                refine ops_ro' rfl (ro_neq rfl rfl rfl) rfl ?_
                refine ops_nil ?_
                refine Then_normal ?_
                refine wp_cond' rfl (fun hc59 => ?_) (fun hc59 => ?_)
                · replace hc59 := of_decide_eq_true hc59
                  refine wp_seq' ?_
                  refine wp_region' ?_
                  refine ops_ro' rfl (ro_move rfl) rfl ?_
                  refine ops_eff' rfl (eff_call Tryz.call32 rfl rfl (by repeat (first | exact Split.nil _ | apply Split.cons 0 rfl | apply Split.cons 1 rfl | apply Split.cons 2 rfl | apply Split.cons 3 rfl | apply Split.cons 4 rfl | apply Split.cons 5 rfl | apply Split.cons 6 rfl | apply Split.cons 7 rfl | apply Split.cons 8 rfl | apply Split.cons 9 rfl | apply Split.cons 10 rfl | apply Split.cons 11 rfl)) (of_spec pp.2)) rfl ?_
                  rintro _ H' ⟨_, ⟨rfl, rfl⟩, hH⟩
                  simp only [List.cons_append, List.nil_append, List.eraseIdx_cons_zero, List.eraseIdx_cons_succ, List.set_cons_zero, List.set_cons_succ] at hH
                  subst hH
                  first | refine ops_heap (fun w F sw => rep_rows (dry_of pp.2) sw) ?_ | refine any_heap (fun w F sw => rep_rows (dry_of pp.2) sw) ?_
                  refine ops_eff0 rfl (eff_storeA 4 ag32 rfl rfl rfl rfl rfl (Nat.le_of_ble_eq_true rfl) (warm_zero _)) rfl ?_
                  rintro _ _ rfl
                  simp only [List.set_cons_zero, List.set_cons_succ]
                  refine ops_nil ?_
                  refine Then_normal ?_
                  refine wp_ret' ?_
                  refine Then_ret ?_
                  refine' doneS_ret (resv1 rfl (rv_cellA ag32 rfl (by first | exact RdN.of_pick 0 rfl rdn_all | exact RdN.of_pick 1 rfl rdn_all | exact RdN.of_pick 2 rfl rdn_all | exact RdN.of_pick 3 rfl rdn_all | exact RdN.of_pick 4 rfl rdn_all | exact RdN.of_pick 5 rfl rdn_all | exact RdN.of_pick 6 rfl rdn_all | exact RdN.of_pick 7 rfl rdn_all | exact RdN.of_pick 8 rfl rdn_all) rfl)) ?_ ?_
                  rotate_left 1
                  exact ⟨t, hs, ofK pp.2, none, 0, none, 0, (by first | rfl | (rw [← ofE_rep]; rfl)), (do_split hs16 hnb h7 hr14 hpp (by omega)), ⟨r, hW⟩, htb, by omega, hH, rfl⟩
                  exact (SubH.cons 0 rfl (SubH.cons 0 rfl (SubH.cons 7 rfl (SubH.cons 7 rfl (SubH.cons 7 rfl (SubH.cons 1 rfl (SubH.nil _)))))))
                · replace hc59 := of_decide_eq_false hc59
                  refine wp_skip' ?_
                  refine Then_normal ?_
                  refine wp_seq' ?_
                  refine wp_seq' ?_
                  have hpe : pp.2 = 0 := by omega
                  refine wp_know (fun w F s => row_caps 0 rfl s) ?_
                  intro hpc
                  refine wp_sub' (L := [row 9 1 (.slice p55 pp.1.length c55) pp.1.length (txs pp.1), own b6 (.cells ((Rk.rep ⟨0, 0, [], [], [], At.zero⟩ none 0 none 0).cs).toArray 32 (0, 0)), own b5 (.cells (q.cs).toArray 35 (0, 0)), oMa mb tb hs, tree t, St (hs.map rowN), V]) (by repeat (first | exact SubH.nil _ | refine SubH.cons 0 rfl ?_ | refine SubH.cons 1 rfl ?_ | refine SubH.cons 2 rfl ?_ | refine SubH.cons 3 rfl ?_ | refine SubH.cons 4 rfl ?_ | refine SubH.cons 5 rfl ?_ | refine SubH.cons 6 rfl ?_ | refine SubH.cons 7 rfl ?_ | refine SubH.cons 8 rfl ?_ | refine SubH.cons 9 rfl ?_ | refine SubH.cons 10 rfl ?_ | refine SubH.cons 11 rfl ?_ | refine SubH.cons 12 rfl ?_ | refine SubH.cons 13 rfl ?_ | refine SubH.rown ?_)) ?_
                  refine wp_region' ?_
                  refine ops_ro' rfl (ro_fieldAddr fa35_0 rfl) rfl ?_
                  refine ops_ro' rfl (ro_load sc3 rfl (Rd.pick 2 rfl (Rd.own rfl))) rfl ?_
                  refine ops_nil ?_
                  refine Then_normal ?_
                  refine wp_block' ?_
                  refine wp_seq' ?_
                  refine wp_region' ?_
                  refine ops_ro' rfl (ro_eql rfl rfl (decide_eq_false (by omega))) rfl ?_
                  refine ops_ro' rfl (ro_assign rfl) rfl ?_
                  refine ops_nil ?_
                  refine Then_normal ?_
                  refine wp_condF rfl ?_
                  refine wp_seq' ?_
                  refine wp_region' ?_
                  refine ops_ro' rfl (ro_eql rfl rfl (decide_eq_false (by omega))) rfl ?_
                  refine ops_ro' rfl (ro_assign rfl) rfl ?_
                  refine ops_nil ?_
                  refine Then_normal ?_
                  refine wp_condF rfl ?_
                  refine wp_seq' ?_
                  refine wp_region' ?_
                  refine ops_ro' rfl (ro_eql rfl rfl (decide_eq_true (by omega))) rfl ?_
                  refine ops_ro' rfl (ro_assign rfl) rfl ?_
                  refine ops_nil ?_
                  refine Then_normal ?_
                  refine wp_condT rfl ?_
                  refine wp_seq' ?_
                  refine wp_region' ?_
                  refine ops_ro' rfl (ro_move rfl) rfl ?_
                  refine ops_ro' rfl (ro_nilCheck rfl) rfl ?_
                  refine ops_ro' rfl (ro_fieldAddr fa71_0 rfl) rfl ?_
                  refine ops_ro' rfl (ro_load sc51 rfl (Rd.pick 3 rfl (Rd.own rfl))) rfl ?_
                  refine ops_ro' rfl (ro_move rfl) rfl ?_
                  refine ops_eff' rfl (eff_call Tryz.call34 rfl rfl (by repeat (first | exact Split.nil _ | apply Split.cons 0 rfl | apply Split.cons 1 rfl | apply Split.cons 2 rfl | apply Split.cons 3 rfl | apply Split.cons 4 rfl | apply Split.cons 5 rfl | apply Split.cons 6 rfl | apply Split.cons 7 rfl | apply Split.cons 8 rfl | apply Split.cons 9 rfl | apply Split.cons 10 rfl | apply Split.cons 11 rfl)) (tri_argc htb (make_spec (V := row 9 1 (.slice p55 pp.1.length c55) pp.1.length (txs pp.1)) hW hnx _ _ pp.1 Vw.row hpc hfew (by omega) true))) rfl ?_
                  rintro _ H' ⟨_, ⟨t2, r2, i2, e2, rfl, hR2, hW2, rfl⟩, hH⟩
                  simp only [List.cons_append, List.nil_append, List.eraseIdx_cons_zero, List.eraseIdx_cons_succ, List.set_cons_zero, List.set_cons_succ] at hH
                  subst hH
                  obtain ⟨hnx2, htb2⟩ := make_nx hR2
                  have htb2 : t2.tb = tb := by rw [htb2, htb]
                  refine ops_ro' rfl (ro_move rfl) rfl ?_
                  refine ops_ro' rfl (ro_extract rfl rfl) rfl ?_
                  refine ops_ro' rfl (ro_extract rfl rfl) rfl ?_
                  refine ops_ro' rfl (ro_assign rfl) rfl ?_
                  refine ops_ro' rfl (ro_assign rfl) rfl ?_
                  refine ops_nil ?_
                  refine Then_normal ?_
                  refine wp_cutK 1022 (fun Δ LL => ∃ (t3 : Tr), ((∃ r3, Wf t3 r3) ∧ t3.tb = tb ∧ t3.next ≤ t.next + 1 ∧ (if e2 = 0 then ∃ e3, SetR t2 i2 (bareA q.a) t3 e3 else t3 = t2)) ∧ Δ = [] ∧ LL = [own b6 (.cells ((Rk.rep ⟨0, 0, [], [], [], At.zero⟩ none 0 none 0).cs).toArray 32 (0, 0)), own b5 (.cells (q.cs).toArray 35 (0, 0)), oMa mb tb hs, tree t3, St (hs.map rowN), V]) (Has.cons (k := 6) rfl (Has.cons (k := 12) rfl (Has.nil _))) ?_ ?_
                  · refine wp_seq' ?_
                    refine wp_region' ?_
                    refine ops_ro' rfl (ro_move rfl) rfl ?_
                    refine ops_ro' rfl (ro_eql rfl rfl rfl) rfl ?_
                    refine ops_nil ?_
                    refine Then_normal ?_
                    refine wp_cond' rfl (fun hc94 => ?_) (fun hc94 => ?_)
                    · replace hc94 := of_decide_eq_true hc94
                      refine wp_sub' (L := [own b6 (.cells ((Rk.rep ⟨0, 0, [], [], [], At.zero⟩ none 0 none 0).cs).toArray 32 (0, 0)), own b5 (.cells (q.cs).toArray 35 (0, 0)), oMa mb tb hs, tree t2, St (hs.map rowN), V]) (by repeat (first | exact SubH.nil _ | refine SubH.cons 0 rfl ?_ | refine SubH.cons 1 rfl ?_ | refine SubH.cons 2 rfl ?_ | refine SubH.cons 3 rfl ?_ | refine SubH.cons 4 rfl ?_ | refine SubH.cons 5 rfl ?_ | refine SubH.cons 6 rfl ?_ | refine SubH.cons 7 rfl ?_ | refine SubH.cons 8 rfl ?_ | refine SubH.cons 9 rfl ?_ | refine SubH.cons 10 rfl ?_ | refine SubH.cons 11 rfl ?_ | refine SubH.cons 12 rfl ?_ | refine SubH.cons 13 rfl ?_ | refine SubH.rown ?_)) ?_
                      refine wp_draw 9 (by kernel_rfl) (Split.cons 1 rfl (Split.cons 1 rfl (Split.nil _))) ?_
                      refine any_ro' (i := 0) (by kernel_rfl) rfl rfl (ro_move rfl) rfl (fun _ _ _ h => h) ?_
                      refine any_ro' (i := 1) (by kernel_rfl) rfl rfl (ro_nilCheck rfl) rfl (fun _ _ _ h => h) ?_
                      refine any_ro' (i := 2) (by kernel_rfl) rfl rfl (ro_fieldAddr fa71_0 rfl) rfl (fun _ _ _ h => h) ?_
                      refine any_ro' (i := 3) (by kernel_rfl) rfl rfl (ro_load sc51 rfl (Rd.pick 1 rfl (Rd.own rfl))) rfl (fun _ _ _ h => h) ?_
                      refine any_ro' (i := 4) (by kernel_rfl) rfl rfl (ro_move rfl) rfl (fun _ _ _ h => h) ?_
                      refine any_ro' (i := 5) (by kernel_rfl) rfl rfl (ro_fieldAddr fa35_8 rfl) rfl (fun _ _ _ h => h) ?_
                      refine any_ro' (i := 6) (by kernel_rfl) rfl rfl (ro_loadA ag30 rfl (RdN.of_pick 0 rfl (rdn_sub 7)) rfl) rfl (fun _ _ _ h => h) ?_
                      refine any_eff' (i := 7) (by kernel_rfl) rfl rfl (eff_call Tryz.call36 rfl rfl (by repeat (first | exact Split.nil _ | apply Split.cons 0 rfl | apply Split.cons 1 rfl | apply Split.cons 2 rfl | apply Split.cons 3 rfl | apply Split.cons 4 rfl | apply Split.cons 5 rfl | apply Split.cons 6 rfl | apply Split.cons 7 rfl | apply Split.cons 8 rfl | apply Split.cons 9 rfl | apply Split.cons 10 rfl | apply Split.cons 11 rfl)) (fbare_spec q.a hq.a)) rfl ?_
                      rintro _ H' ⟨_, ⟨rfl, rfl⟩, hH⟩
                      simp only [List.cons_append, List.nil_append, List.eraseIdx_cons_zero, List.eraseIdx_cons_succ, List.set_cons_zero, List.set_cons_succ] at hH
                      subst hH
                      refine any_eff' (i := 8) (by kernel_rfl) rfl rfl (eff_call Tryz.call35 rfl rfl (by repeat (first | exact Split.nil _ | apply Split.cons 0 rfl | apply Split.cons 1 rfl | apply Split.cons 2 rfl | apply Split.cons 3 rfl | apply Split.cons 4 rfl | apply Split.cons 5 rfl | apply Split.cons 6 rfl | apply Split.cons 7 rfl | apply Split.cons 8 rfl | apply Split.cons 9 rfl | apply Split.cons 10 rfl | apply Split.cons 11 rfl)) (tri_argc htb2 (set_spec hW2 i2 (bareA q.a) (bare_ok hq.a)))) rfl ?_
                      rintro _ H' ⟨_, ⟨t3, e3, rfl, hR3, rfl⟩, hH⟩
                      simp only [List.cons_append, List.nil_append, List.eraseIdx_cons_zero, List.eraseIdx_cons_succ, List.set_cons_zero, List.set_cons_succ] at hH
                      subst hH
                      obtain ⟨hW3, hnx3, htb3, _⟩ := set_wf hW2 (bare_ok hq.a) hR3
                      have htb3 : t3.tb = tb := by rw [htb3, htb2]
                      refine any_done (by kernel_rfl) ?_
                      refine Then_normal ?_
                      refine over_cut (kept ⟨t3, ⟨hW3, htb3, by omega, by rw [if_pos (by omega)]; exact ⟨e3, hR3⟩⟩, rfl, rfl⟩ ?_ ?_ ?_)
                      · exact (by repeat (first | exact Has.nil _ | refine Has.cons rfl ?_))
                      · exact (by repeat (first | exact Has.nil _ | refine Has.cons rfl ?_))
                      · exact (SubH.cons 3 rfl (SubH.cons 0 rfl (SubH.cons 0 rfl (SubH.cons 0 rfl (SubH.cons 0 rfl (SubH.cons 0 rfl (SubH.nil _)))))))
                    · replace hc94 := of_decide_eq_false hc94
                      refine wp_skip' ?_
                      refine Then_normal ?_
                      refine over_cut (kept ⟨t2, ⟨⟨r2, hW2⟩, htb2, by omega, by rw [if_neg (by omega)]⟩, rfl, rfl⟩ ?_ ?_ ?_)
                      · exact (by repeat (first | exact Has.nil _ | refine Has.cons rfl ?_))
                      · exact (by repeat (first | exact Has.nil _ | refine Has.cons rfl ?_))
                      · exact (SubH.cons 2 rfl (SubH.cons 2 rfl (SubH.cons 2 rfl (SubH.cons 0 rfl (SubH.cons 1 rfl (SubH.cons 1 rfl (SubH.nil _)))))))
                  · rintro Δ LL ⟨t3, ⟨hW3, htb3, hnx3, hO3⟩, rfl, rfl⟩
                    simp only [List.cons_append, List.nil_append]
                    refine wp_seq' ?_
                    refine wp_region' ?_
                    refine ops_ro' rfl (ro_move rfl) rfl ?_
                    refine ops_eff' rfl (eff_call Tryz.call32 rfl rfl (by repeat (first | exact Split.nil _ | apply Split.cons 0 rfl | apply Split.cons 1 rfl | apply Split.cons 2 rfl | apply Split.cons 3 rfl | apply Split.cons 4 rfl | apply Split.cons 5 rfl | apply Split.cons 6 rfl | apply Split.cons 7 rfl | apply Split.cons 8 rfl | apply Split.cons 9 rfl | apply Split.cons 10 rfl | apply Split.cons 11 rfl)) (of_spec e2)) rfl ?_
                    rintro _ H' ⟨_, ⟨rfl, rfl⟩, hH⟩
                    simp only [List.cons_append, List.nil_append, List.eraseIdx_cons_zero, List.eraseIdx_cons_succ, List.set_cons_zero, List.set_cons_succ] at hH
                    subst hH
                    first | refine ops_heap (fun w F sw => rep_rows (dry_of e2) sw) ?_ | refine any_heap (fun w F sw => rep_rows (dry_of e2) sw) ?_
                    refine ops_eff0 rfl (eff_storeA 2 ag32 rfl rfl rfl rfl rfl (Nat.le_of_ble_eq_true rfl) (warm_zero _)) rfl ?_
                    rintro _ _ rfl
                    simp only [List.set_cons_zero, List.set_cons_succ]
                    refine ops_nil ?_
                    refine Then_normal ?_
                    refine wp_ret' ?_
                    refine InBlock_ret ?_
                    refine Then_ret ?_
                    refine' doneS_ret (resv1 rfl (rv_cellA ag32 rfl (by first | exact RdN.of_pick 0 rfl rdn_all | exact RdN.of_pick 1 rfl rdn_all | exact RdN.of_pick 2 rfl rdn_all | exact RdN.of_pick 3 rfl rdn_all | exact RdN.of_pick 4 rfl rdn_all | exact RdN.of_pick 5 rfl rdn_all | exact RdN.of_pick 6 rfl rdn_all | exact RdN.of_pick 7 rfl rdn_all | exact RdN.of_pick 8 rfl rdn_all) rfl)) ?_ ?_
                    rotate_left 1
                    exact ⟨t3, hs, ofK e2, none, 0, none, 0, (by first | rfl | (rw [← ofE_rep]; rfl)), (do_path hs16 hnb h7 hr14 hpp hpe (by unfold pathR; rw [if_neg (by omega), if_neg (by omega), if_pos (by omega)]; exact ⟨t2, r2, i2, e2, hR2, rfl, hO3⟩)), hW3, htb3, hnx3, hH, rfl⟩
                    exact (SubH.cons 0 rfl (SubH.cons 0 rfl (SubH.cons 2 rfl (SubH.cons 2 rfl (SubH.cons 2 rfl (SubH.cons 2 rfl (SubH.nil _)))))))
            · replace hg45 := of_decide_eq_false hg45
              refine ops_skip' rfl rfl ?_
              refine ops_skip' rfl rfl ?_
              refine ops_skip' rfl rfl ?_
              refine ops_skip' rfl rfl ?_
              refine ops_ro' rfl (ro_pick rfl rfl) rfl ?_
              refine ops_nil ?_
              refine Then_normal ?_
              refine wp_condF rfl ?_
              refine wp_skip' ?_
              refine Then_normal ?_
              refine wp_seq' ?_
              have hr14 : ¬ (q.kind = 14 ∧ q.a.right = false) := by rintro ⟨a1, a2⟩; first | omega | simp_all
              refine wp_region' ?_
              refine ops_ro' rfl (ro_fieldAddr fa35_1 rfl) rfl ?_
              refine ops_ro' rfl (ro_load sc9 rfl (Rd.pick 1 rfl (Rd.own rfl))) rfl ?_
              refine ops_eff' rfl (eff_call Tryz.call31 rfl rfl (by repeat (first | exact Split.nil _ | apply Split.cons 0 rfl | apply Split.cons 1 rfl | apply Split.cons 2 rfl | apply Split.cons 3 rfl | apply Split.cons 4 rfl | apply Split.cons 5 rfl | apply Split.cons 6 rfl | apply Split.cons 7 rfl | apply Split.cons 8 rfl | apply Split.cons 9 rfl | apply Split.cons 10 rfl | apply Split.cons 11 rfl)) (ptSplit_spec V hP q.path hq.path)) rfl ?_
              rintro _ H' ⟨_, ⟨_, ⟨p55, c55, rfl, rfl⟩, rfl⟩, hH⟩
              simp only [List.cons_append, List.nil_append, List.eraseIdx_cons_zero, List.eraseIdx_cons_succ, List.set_cons_zero, List.set_cons_succ] at hH
              subst hH
              have hfew := pSplit_few q.path
              have hlast := pSplit_last q.path
              have hall := pSplit_right q.path
              obtain ⟨pp, hpp⟩ : ∃ z, pSplit q.path = z := ⟨_, rfl⟩
              rw [hpp] at hfew hlast hall ⊢
              refine ops_ro' rfl (ro_move rfl) rfl ?_
              refine ops_ro' rfl (ro_extract rfl rfl) rfl ?_
              refine ops_ro' rfl (ro_extract rfl rfl) rfl ?_
              refine ops_ro' rfl (ro_assign rfl) rfl ?_
              refine ops_ro' rfl (ro_assign rfl) rfl ?_
              refine ops_nil ?_
              refine Then_normal ?_
              refine wp_seq' ?_
              refine wp_seq' ?_
              refine wp_region' ?_
              refine ops_ro' rfl (ro_move rfl) rfl ?_
              refine ops_ro' rfl (ro_neq rfl rfl rfl) rfl ?_
              refine ops_nil ?_
              refine Then_normal ?_
              refine wp_cond' rfl (fun hc59 => ?_) (fun hc59 => ?_)
              · replace hc59 := of_decide_eq_true hc59
                refine wp_seq' ?_
                refine wp_region' ?_
                refine ops_ro' rfl (ro_move rfl) rfl ?_
                refine ops_eff' rfl (eff_call Tryz.call32 rfl rfl (by repeat (first | exact Split.nil _ | apply Split.cons 0 rfl | apply Split.cons 1 rfl | apply Split.cons 2 rfl | apply Split.cons 3 rfl | apply Split.cons 4 rfl | apply Split.cons 5 rfl | apply Split.cons 6 rfl | apply Split.cons 7 rfl | apply Split.cons 8 rfl | apply Split.cons 9 rfl | apply Split.cons 10 rfl | apply Split.cons 11 rfl)) (of_spec pp.2)) rfl ?_
                rintro _ H' ⟨_, ⟨rfl, rfl⟩, hH⟩
                simp only [List.cons_append, List.nil_append, List.eraseIdx_cons_zero, List.eraseIdx_cons_succ, List.set_cons_zero, List.set_cons_succ] at hH
                subst hH
                first | refine ops_heap (fun w F sw => rep_rows (dry_of pp.2) sw) ?_ | refine any_heap (fun w F sw => rep_rows (dry_of pp.2) sw) ?_
                refine ops_eff0 rfl (eff_storeA 4 ag32 rfl rfl rfl rfl rfl (Nat.le_of_ble_eq_true rfl) (warm_zero _)) rfl ?_
                rintro _ _ rfl
                simp only [List.set_cons_zero, List.set_cons_succ]
                refine ops_nil ?_
                refine Then_normal ?_
                refine wp_ret' ?_
                refine Then_ret ?_
                refine' doneS_ret (resv1 rfl (rv_cellA ag32 rfl (by first | exact RdN.of_pick 0 rfl rdn_all | exact RdN.of_pick 1 rfl rdn_all | exact RdN.of_pick 2 rfl rdn_all | exact RdN.of_pick 3 rfl rdn_all | exact RdN.of_pick 4 rfl rdn_all | exact RdN.of_pick 5 rfl rdn_all | exact RdN.of_pick 6 rfl rdn_all | exact RdN.of_pick 7 rfl rdn_all | exact RdN.of_pick 8 rfl rdn_all) rfl)) ?_ ?_
                rotate_left 1
                exact ⟨t, hs, ofK pp.2, none, 0, none, 0, (by first | rfl | (rw [← ofE_rep]; rfl)), (do_split hs16 hnb h7 hr14 hpp (by omega)), ⟨r, hW⟩, htb, by omega, hH, rfl⟩
                exact (SubH.cons 0 rfl (SubH.cons 0 rfl (SubH.cons 7 rfl (SubH.cons 7 rfl (SubH.cons 7 rfl (SubH.cons 1 rfl (SubH.nil _)))))))
              · replace hc59 := of_decide_eq_false hc59
                refine wp_skip' ?_
                refine Then_normal ?_
                refine wp_seq' ?_
                refine wp_seq' ?_
                have hpe : pp.2 = 0 := by omega
                refine wp_know (fun w F s => row_caps 0 rfl s) ?_
                intro hpc
                refine wp_sub' (L := [row 9 1 (.slice p55 pp.1.length c55) pp.1.length (txs pp.1), own b6 (.cells ((Rk.rep ⟨0, 0, [], [], [], At.zero⟩ none 0 none 0).cs).toArray 32 (0, 0)), own b5 (.cells (q.cs).toArray 35 (0, 0)), oMa mb tb hs, tree t, St (hs.map rowN), V]) (by repeat (first | exact SubH.nil _ | refine SubH.cons 0 rfl ?_ | refine SubH.cons 1 rfl ?_ | refine SubH.cons 2 rfl ?_ | refine SubH.cons 3 rfl ?_ | refine SubH.cons 4 rfl ?_ | refine SubH.cons 5 rfl ?_ | refine SubH.cons 6 rfl ?_ | refine SubH.cons 7 rfl ?_ | refine SubH.cons 8 rfl ?_ | refine SubH.cons 9 rfl ?_ | refine SubH.cons 10 rfl ?_ | refine SubH.cons 11 rfl ?_ | refine SubH.cons 12 rfl ?_ | refine SubH.cons 13 rfl ?_ | refine SubH.rown ?_)) ?_
                refine wp_region' ?_
                refine ops_ro' rfl (ro_fieldAddr fa35_0 rfl) rfl ?_
                refine ops_ro' rfl (ro_load sc3 rfl (Rd.pick 2 rfl (Rd.own rfl))) rfl ?_
                refine ops_nil ?_
                refine Then_normal ?_
                refine wp_block' ?_
                refine wp_seq' ?_
                refine wp_region' ?_
                refine ops_ro' rfl (ro_eql rfl rfl rfl) rfl ?_
                refine ops_ro' rfl (ro_assign rfl) rfl ?_
                refine ops_nil ?_
                refine Then_normal ?_
                refine wp_cond' rfl (fun hc64 => ?_) (fun hc64 => ?_)
                · replace hc64 := of_decide_eq_true hc64
                  refine wp_seq' ?_
                  refine wp_region' ?_
                  refine ops_ro' rfl (ro_move rfl) rfl ?_
                  refine ops_ro' rfl (ro_nilCheck rfl) rfl ?_
                  refine ops_ro' rfl (ro_fieldAddr fa71_0 rfl) rfl ?_
                  refine ops_ro' rfl (ro_load sc51 rfl (Rd.pick 3 rfl (Rd.own rfl))) rfl ?_
                  refine ops_ro' rfl (ro_move rfl) rfl ?_
                  refine ops_eff' rfl (eff_call Tryz.call33 rfl rfl (by repeat (first | exact Split.nil _ | apply Split.cons 0 rfl | apply Split.cons 1 rfl | apply Split.cons 2 rfl | apply Split.cons 3 rfl | apply Split.cons 4 rfl | apply Split.cons 5 rfl | apply Split.cons 6 rfl | apply Split.cons 7 rfl | apply Split.cons 8 rfl | apply Split.cons 9 rfl | apply Split.cons 10 rfl | apply Split.cons 11 rfl)) (tri_argc htb (remove_spec (V := row 9 1 (.slice p55 pp.1.length c55) pp.1.length (txs pp.1)) hW _ _ pp.1 Vw.row hpc hfew false))) rfl ?_
                  rintro _ H' ⟨_, ⟨t2, r2, e2, rfl, hR2, hW2, htb2, hnx2, rfl⟩, hH⟩
                  simp only [List.cons_append, List.nil_append, List.eraseIdx_cons_zero, List.eraseIdx_cons_succ, List.set_cons_zero, List.set_cons_succ] at hH
                  subst hH
                  refine ops_eff' rfl (eff_call Tryz.call32 rfl rfl (by repeat (first | exact Split.nil _ | apply Split.cons 0 rfl | apply Split.cons 1 rfl | apply Split.cons 2 rfl | apply Split.cons 3 rfl | apply Split.cons 4 rfl | apply Split.cons 5 rfl | apply Split.cons 6 rfl | apply Split.cons 7 rfl | apply Split.cons 8 rfl | apply Split.cons 9 rfl | apply Split.cons 10 rfl | apply Split.cons 11 rfl)) (of_spec e2)) rfl ?_
                  rintro _ H' ⟨_, ⟨rfl, rfl⟩, hH⟩
                  simp only [List.cons_append, List.nil_append, List.eraseIdx_cons_zero, List.eraseIdx_cons_succ, List.set_cons_zero, List.set_cons_succ] at hH
                  subst hH
                  first | refine ops_heap (fun w F sw => rep_rows (dry_of e2) sw) ?_ | refine any_heap (fun w F sw => rep_rows (dry_of e2) sw) ?_
                  refine ops_eff0 rfl (eff_storeA 4 ag32 rfl rfl rfl rfl rfl (Nat.le_of_ble_eq_true rfl) (warm_zero _)) rfl ?_
                  rintro _ _ rfl
                  simp only [List.set_cons_zero, List.set_cons_succ]
                  refine ops_nil ?_
                  refine Then_normal ?_
                  refine wp_ret' ?_
                  refine InBlock_ret ?_
                  refine Then_ret ?_
                  refine' doneS_ret (resv1 rfl (rv_cellA ag32 rfl (by first | exact RdN.of_pick 0 rfl rdn_all | exact RdN.of_pick 1 rfl rdn_all | exact RdN.of_pick 2 rfl rdn_all | exact RdN.of_pick 3 rfl rdn_all | exact RdN.of_pick 4 rfl rdn_all | exact RdN.of_pick 5 rfl rdn_all | exact RdN.of_pick 6 rfl rdn_all | exact RdN.of_pick 7 rfl rdn_all | exact RdN.of_pick 8 rfl rdn_all) rfl)) ?_ ?_
                  rotate_left 1
                  exact ⟨t2, hs, ofK e2, none, 0, none, 0, (by first | rfl | (rw [← ofE_rep]; rfl)), (do_path hs16 hnb h7 hr14 hpp hpe (by unfold pathR; rw [if_pos (by omega)]; exact ⟨r2, e2, hR2, rfl⟩)), ⟨r2, hW2⟩, htb2.trans htb, by omega, hH, rfl⟩
                  exact (SubH.cons 0 rfl (SubH.cons 0 rfl (SubH.cons 4 rfl (SubH.cons 0 rfl (SubH.cons 3 rfl (SubH.cons 3 rfl (SubH.nil _)))))))
                · replace hc64 := of_decide_eq_false hc64
                  refine wp_seq' ?_
                  refine wp_region' ?_
                  refine ops_ro' rfl (ro_eql rfl rfl rfl) rfl ?_
                  refine ops_ro' rfl (ro_assign rfl) rfl ?_
                  refine ops_nil ?_
                  refine Then_normal ?_
                  refine wp_cond' rfl (fun hc73 => ?_) (fun hc73 => ?_)
                  · replace hc73 := of_decide_eq_true hc73
                    refine wp_seq' ?_
                    refine wp_region' ?_
                    refine ops_ro' rfl (ro_move rfl) rfl ?_
                    refine ops_ro' rfl (ro_nilCheck rfl) rfl ?_
                    refine ops_ro' rfl (ro_fieldAddr fa71_0 rfl) rfl ?_
                    refine ops_ro' rfl (ro_load sc51 rfl (Rd.pick 3 rfl (Rd.own rfl))) rfl ?_
                    refine ops_ro' rfl (ro_move rfl) rfl ?_
                    refine ops_eff' rfl (eff_call Tryz.call33 rfl rfl (by repeat (first | exact Split.nil _ | apply Split.cons 0 rfl | apply Split.cons 1 rfl | apply Split.cons 2 rfl | apply Split.cons 3 rfl | apply Split.cons 4 rfl | apply Split.cons 5 rfl | apply Split.cons 6 rfl | apply Split.cons 7 rfl | apply Split.cons 8 rfl | apply Split.cons 9 rfl | apply Split.cons 10 rfl | apply Split.cons 11 rfl)) (tri_argc htb (remove_spec (V := row 9 1 (.slice p55 pp.1.length c55) pp.1.length (txs pp.1)) hW _ _ pp.1 Vw.row hpc hfew true))) rfl ?_
                    rintro _ H' ⟨_, ⟨t2, r2, e2, rfl, hR2, hW2, htb2, hnx2, rfl⟩, hH⟩
                    simp only [List.cons_append, List.nil_append, List.eraseIdx_cons_zero, List.eraseIdx_cons_succ, List.set_cons_zero, List.set_cons_succ] at hH
                    subst hH
                    refine ops_eff' rfl (eff_call Tryz.call32 rfl rfl (by repeat (first | exact Split.nil _ | apply Split.cons 0 rfl | apply Split.cons 1 rfl | apply Split.cons 2 rfl | apply Split.cons 3 rfl | apply Split.cons 4 rfl | apply Split.cons 5 rfl | apply Split.cons 6 rfl | apply Split.cons 7 rfl | apply Split.cons 8 rfl | apply Split.cons 9 rfl | apply Split.cons 10 rfl | apply Split.cons 11 rfl)) (of_spec e2)) rfl ?_
                    rintro _ H' ⟨_, ⟨rfl, rfl⟩, hH⟩
                    simp only [List.cons_append, List.nil_append, List.eraseIdx_cons_zero, List.eraseIdx_cons_succ, List.set_cons_zero, List.set_cons_succ] at hH
                    subst hH
                    first | refine ops_heap (fun w F sw => rep_rows (dry_of e2) sw) ?_ | refine any_heap (fun w F sw => rep_rows (dry_of e2) sw) ?_
                    refine ops_eff0 rfl (eff_storeA 4 ag32 rfl rfl rfl rfl rfl (Nat.le_of_ble_eq_true rfl) (warm_zero _)) rfl ?_
                    rintro _ _ rfl
                    simp only [List.set_cons_zero, List.set_cons_succ]
                    refine ops_nil ?_
                    refine Then_normal ?_
                    refine wp_ret' ?_
                    refine InBlock_ret ?_
                    refine Then_ret ?_
                    refine' doneS_ret (resv1 rfl (rv_cellA ag32 rfl (by first | exact RdN.of_pick 0 rfl rdn_all | exact RdN.of_pick 1 rfl rdn_all | exact RdN.of_pick 2 rfl rdn_all | exact RdN.of_pick 3 rfl rdn_all | exact RdN.of_pick 4 rfl rdn_all | exact RdN.of_pick 5 rfl rdn_all | exact RdN.of_pick 6 rfl rdn_all | exact RdN.of_pick 7 rfl rdn_all | exact RdN.of_pick 8 rfl rdn_all) rfl)) ?_ ?_
                    rotate_left 1
                    exact ⟨t2, hs, ofK e2, none, 0, none, 0, (by first | rfl | (rw [← ofE_rep]; rfl)), (do_path hs16 hnb h7 hr14 hpp hpe (by unfold pathR; rw [if_neg (by omega), if_pos (by omega)]; exact ⟨r2, e2, hR2, rfl⟩)), ⟨r2, hW2⟩, htb2.trans htb, by omega, hH, rfl⟩
                    exact (SubH.cons 0 rfl (SubH.cons 0 rfl (SubH.cons 4 rfl (SubH.cons 0 rfl (SubH.cons 3 rfl (SubH.cons 3 rfl (SubH.nil _)))))))
                  · replace hc73 := of_decide_eq_false hc73
                    refine wp_seq' ?_
                    refine wp_region' ?_
                    refine ops_ro' rfl (ro_eql rfl rfl (decide_eq_false (by omega))) rfl ?_
                    refine ops_ro' rfl (ro_assign rfl) rfl ?_
                    refine ops_nil ?_
                    refine Then_normal ?_
                    refine wp_condF rfl ?_
                    refine wp_seq' ?_
                    refine wp_region' ?_
                    refine ops_ro' rfl (ro_eql rfl rfl rfl) rfl ?_
                    refine ops_ro' rfl (ro_assign rfl) rfl ?_
                    refine ops_nil ?_
                    refine Then_normal ?_
                    refine wp_cond' rfl (fun hc106 => ?_) (fun hc106 => ?_)
                    · replace hc106 := of_decide_eq_true hc106
                      refine wp_seq' ?_
                      refine wp_region' ?_
                      refine ops_ro' rfl (ro_fieldAddr fa35_2 rfl) rfl ?_
                      refine ops_ro' rfl (ro_load sc9 rfl (Rd.pick 2 rfl (Rd.own rfl))) rfl ?_
                      refine ops_eff' rfl (eff_call Tryz.call31 rfl rfl (by repeat (first | exact Split.nil _ | apply Split.cons 0 rfl | apply Split.cons 1 rfl | apply Split.cons 2 rfl | apply Split.cons 3 rfl | apply Split.cons 4 rfl | apply Split.cons 5 rfl | apply Split.cons 6 rfl | apply Split.cons 7 rfl | apply Split.cons 8 rfl | apply Split.cons 9 rfl | apply Split.cons 10 rfl | apply Split.cons 11 rfl)) (ptSplit_spec V hP q.dest hq.dest)) rfl ?_
                      rintro _ H' ⟨_, ⟨_, ⟨p111, c111, rfl, rfl⟩, rfl⟩, hH⟩
                      simp only [List.cons_append, List.nil_append, List.eraseIdx_cons_zero, List.eraseIdx_cons_succ, List.set_cons_zero, List.set_cons_succ] at hH
                      subst hH
                      have hfew2 := pSplit_few q.dest
                      have hlast2 := pSplit_last q.dest
                      obtain ⟨p2, hp2⟩ : ∃ z, pSplit q.dest = z := ⟨_, rfl⟩
                      rw [hp2] at hfew2 hlast2 ⊢
                      refine ops_ro' rfl (ro_move rfl) rfl ?_
                      refine ops_ro' rfl (ro_extract rfl rfl) rfl ?_
                      refine ops_ro' rfl (ro_extract rfl rfl) rfl ?_
                      refine ops_ro' rfl (ro_assign rfl) rfl ?_
                      refine ops_ro' rfl (ro_assign rfl) rfl ?_
                      refine ops_nil ?_
                      refine Then_normal ?_
                      refine wp_seq' ?_
                      refine wp_seq' ?_
                      refine wp_region' ?_
                      refine ops_ro' rfl (ro_move rfl) rfl ?_
                      refine ops_ro' rfl (ro_neq rfl rfl rfl) rfl ?_
                      refine ops_nil ?_
                      refine Then_normal ?_
                      refine wp_cond' rfl (fun hc115 => ?_) (fun hc115 => ?_)
                      · replace hc115 := of_decide_eq_true hc115
                        refine wp_seq' ?_
                        refine wp_region' ?_
                        refine ops_ro' rfl (ro_move rfl) rfl ?_
                        refine ops_eff' rfl (eff_call Tryz.call32 rfl rfl (by repeat (first | exact Split.nil _ | apply Split.cons 0 rfl | apply Split.cons 1 rfl | apply Split.cons 2 rfl | apply Split.cons 3 rfl | apply Split.cons 4 rfl | apply Split.cons 5 rfl | apply Split.cons 6 rfl | apply Split.cons 7 rfl | apply Split.cons 8 rfl | apply Split.cons 9 rfl | apply Split.cons 10 rfl | apply Split.cons 11 rfl)) (of_spec p2.2)) rfl ?_
                        rintro _ H' ⟨_, ⟨rfl, rfl⟩, hH⟩
                        simp only [List.cons_append, List.nil_append, List.eraseIdx_cons_zero, List.eraseIdx_cons_succ, List.set_cons_zero, List.set_cons_succ] at hH
                        subst hH
                        first | refine ops_heap (fun w F sw => rep_rows (dry_of p2.2) sw) ?_ | refine any_heap (fun w F sw => rep_rows (dry_of p2.2) sw) ?_
                        refine ops_eff0 rfl (eff_storeA 5 ag32 rfl rfl rfl rfl rfl (Nat.le_of_ble_eq_true rfl) (warm_zero _)) rfl ?_
                        rintro _ _ rfl
                        simp only [List.set_cons_zero, List.set_cons_succ]
                        refine ops_nil ?_
                        refine Then_normal ?_
                        refine wp_ret' ?_
                        refine Then_ret ?_
                        refine InBlock_ret ?_
                        refine Then_ret ?_
                        refine' doneS_ret (resv1 rfl (rv_cellA ag32 rfl (by first | exact RdN.of_pick 0 rfl rdn_all | exact RdN.of_pick 1 rfl rdn_all | exact RdN.of_pick 2 rfl rdn_all | exact RdN.of_pick 3 rfl rdn_all | exact RdN.of_pick 4 rfl rdn_all | exact RdN.of_pick 5 rfl rdn_all | exact RdN.of_pick 6 rfl rdn_all | exact RdN.of_pick 7 rfl rdn_all | exact RdN.of_pick 8 rfl rdn_all) rfl)) ?_ ?_
                        rotate_left 1
                        exact ⟨t, hs, ofK p2.2, none, 0, none, 0, (by first | rfl | (rw [← ofE_rep]; rfl)), (do_path hs16 hnb h7 hr14 hpp hpe (by unfold pathR; rw [if_neg (by omega), if_neg (by omega), if_neg (by omega), if_pos (by omega)]; rw [hp2, if_pos (by omega)]; exact ⟨rfl, rfl⟩)), ⟨r, hW⟩, htb, by omega, hH, rfl⟩
                        exact (SubH.cons 0 rfl (SubH.cons 0 rfl (SubH.cons 5 rfl (SubH.cons 5 rfl (SubH.cons 5 rfl (SubH.cons 1 rfl (SubH.nil _)))))))
                      · replace hc115 := of_decide_eq_false hc115
                        refine wp_skip' ?_
                        refine Then_normal ?_
                        refine wp_seq' ?_
                        refine wp_know (fun w F s => row_caps 0 rfl s) ?_
                        intro hpc2
                        refine wp_region' ?_
                        refine ops_ro' rfl (ro_move rfl) rfl ?_
                        refine ops_ro' rfl (ro_nilCheck rfl) rfl ?_
                        refine ops_ro' rfl (ro_fieldAddr fa71_0 rfl) rfl ?_
                        refine ops_ro' rfl (ro_load sc51 rfl (Rd.pick 5 rfl (Rd.own rfl))) rfl ?_
                        refine ops_ro' rfl (ro_move rfl) rfl ?_
                        refine ops_ro' rfl (ro_move rfl) rfl ?_
                        refine ops_eff' rfl (eff_callM (Pre := [_]) Tryz.call37 rfl rfl (by repeat (first | exact Split.nil _ | apply Split.cons 0 rfl | apply Split.cons 1 rfl | apply Split.cons 2 rfl | apply Split.cons 3 rfl | apply Split.cons 4 rfl | apply Split.cons 5 rfl | apply Split.cons 6 rfl | apply Split.cons 7 rfl | apply Split.cons 8 rfl | apply Split.cons 9 rfl | apply Split.cons 10 rfl | apply Split.cons 11 rfl)) (tri_argc htb (frenK_spec hW _ _ pp.1 (by first | exact Vw.pick 0 rfl Vw.row | exact Vw.pick 1 rfl Vw.row | exact Vw.pick 2 rfl Vw.row | exact Vw.pick 3 rfl Vw.row | exact Vw.pick 4 rfl Vw.row | exact Vw.pick 5 rfl Vw.row | exact Vw.pick 6 rfl Vw.row | exact Vw.pick 7 rfl Vw.row | exact Vw.pick 8 rfl Vw.row | exact Vw.nil _ | exact Vw.empty _ _) hpc hfew _ _ p2.1 (by first | exact Vw.pick 0 rfl Vw.row | exact Vw.pick 1 rfl Vw.row | exact Vw.pick 2 rfl Vw.row | exact Vw.pick 3 rfl Vw.row | exact Vw.pick 4 rfl Vw.row | exact Vw.pick 5 rfl Vw.row | exact Vw.pick 6 rfl Vw.row | exact Vw.pick 7 rfl Vw.row | exact Vw.pick 8 rfl Vw.row | exact Vw.nil _ | exact Vw.empty _ _) hpc2 hfew2 (by omega)))) rfl ?_
                        rintro _ H' ⟨_, ⟨t2, r2, e2, rfl, hR2, hW2, htb2, hnx2, rfl⟩, hH⟩
                        simp only [List.cons_append, List.nil_append, List.eraseIdx_cons_zero, List.eraseIdx_cons_succ, List.set_cons_zero, List.set_cons_succ] at hH
                        subst hH
                        refine ops_eff' rfl (eff_call Tryz.call32 rfl rfl (by repeat (first | exact Split.nil _ | apply Split.cons 0 rfl | apply Split.cons 1 rfl | apply Split.cons 2 rfl | apply Split.cons 3 rfl | apply Split.cons 4 rfl | apply Split.cons 5 rfl | apply Split.cons 6 rfl | apply Split.cons 7 rfl | apply Split.cons 8 rfl | apply Split.cons 9 rfl | apply Split.cons 10 rfl | apply Split.cons 11 rfl)) (of_spec e2)) rfl ?_
                        rintro _ H' ⟨_, ⟨rfl, rfl⟩, hH⟩
                        simp only [List.cons_append, List.nil_append, List.eraseIdx_cons_zero, List.eraseIdx_cons_succ, List.set_cons_zero, List.set_cons_succ] at hH
                        subst hH
                        first | refine ops_heap (fun w F sw => rep_rows (dry_of e2) sw) ?_ | refine any_heap (fun w F sw => rep_rows (dry_of e2) sw) ?_
                        refine ops_eff0 rfl (eff_storeA 6 ag32 rfl rfl rfl rfl rfl (Nat.le_of_ble_eq_true rfl) (warm_zero _)) rfl ?_
                        rintro _ _ rfl
                        simp only [List.set_cons_zero, List.set_cons_succ]
                        refine ops_nil ?_
                        refine Then_normal ?_
                        refine wp_ret' ?_
                        refine InBlock_ret ?_
                        refine Then_ret ?_
                        refine' doneS_ret (resv1 rfl (rv_cellA ag32 rfl (by first | exact RdN.of_pick 0 rfl rdn_all | exact RdN.of_pick 1 rfl rdn_all | exact RdN.of_pick 2 rfl rdn_all | exact RdN.of_pick 3 rfl rdn_all | exact RdN.of_pick 4 rfl rdn_all | exact RdN.of_pick 5 rfl rdn_all | exact RdN.of_pick 6 rfl rdn_all | exact RdN.of_pick 7 rfl rdn_all | exact RdN.of_pick 8 rfl rdn_all) rfl)) ?_ ?_
                        rotate_left 1
                        exact ⟨t2, hs, ofK e2, none, 0, none, 0, (by first | rfl | (rw [← ofE_rep]; rfl)), (do_path hs16 hnb h7 hr14 hpp hpe (by unfold pathR; rw [if_neg (by omega), if_neg (by omega), if_neg (by omega), if_pos (by omega)]; rw [hp2, if_neg (by omega)]; exact ⟨r2, e2, hR2, rfl⟩)), ⟨r2, hW2⟩, htb2.trans htb, by omega, hH, rfl⟩
                        exact (SubH.cons 0 rfl (SubH.cons 0 rfl (SubH.cons 6 rfl (SubH.cons 0 rfl (SubH.cons 5 rfl (SubH.cons 1 rfl (SubH.nil _)))))))
                    · replace hc106 := of_decide_eq_false hc106
                      refine wp_seq' ?_
                      refine wp_region' ?_
                      refine ops_ro' rfl (ro_eql rfl rfl rfl) rfl ?_
                      refine ops_ro' rfl (ro_assign rfl) rfl ?_
                      refine ops_nil ?_
                      refine Then_normal ?_
                      refine wp_cond' rfl (fun hc126 => ?_) (fun hc126 => ?_)
                      · replace hc126 := of_decide_eq_true hc126
                        refine wp_seq' ?_
                        refine wp_region' ?_
                        refine ops_ro' rfl (ro_move rfl) rfl ?_
                        refine ops_eff' rfl (eff_callM (Pre := []) Tryz.call38 rfl rfl (Split.nil _) (ptJoin_spec _ _ _ pp.1 (by first | exact Vw.pick 0 rfl Vw.row | exact Vw.pick 1 rfl Vw.row | exact Vw.pick 2 rfl Vw.row | exact Vw.pick 3 rfl Vw.row | exact Vw.pick 4 rfl Vw.row | exact Vw.pick 5 rfl Vw.row | exact Vw.pick 6 rfl Vw.row | exact Vw.pick 7 rfl Vw.row | exact Vw.pick 8 rfl Vw.row | exact Vw.nil _ | exact Vw.empty _ _) hpc (by omega) (fun x hx => Nat.le_trans (ptOk_30 (hall x hx)) (by decide)))) rfl ?_
                        rintro _ H' ⟨_, ⟨rfl, rfl⟩, hH⟩
                        simp only [List.cons_append, List.nil_append, List.eraseIdx_cons_zero, List.eraseIdx_cons_succ, List.set_cons_zero, List.set_cons_succ] at hH
                        subst hH
                        refine ops_ro' rfl (ro_build rfl (bld_struct (cs := Nm.cs ⟨pJoin pp.1, At.zero⟩) st87 rfl)) rfl ?_
                        refine ops_eff' rfl (eff_lit sl26 rfl (sbld (cs := flat Nm.cs [⟨pJoin pp.1, At.zero⟩]) [(.string ByteArray.empty), (.int .u32 0), (.int .u64 0), (.int .u32 0), (.int .u32 0), (.int .u32 0), (.int .u32 0), (.int .u32 0)] sl26 (by decide) (by kernel_rfl) rfl) rfl (by decide)) rfl ?_
                        rintro _ _ ⟨b131, rfl, rfl⟩
                        first | refine ops_heap (fun w F sw => rep_data (l := []) rfl sw) ?_ | refine any_heap (fun w F sw => rep_data (l := []) rfl sw) ?_
                        refine ops_ro' rfl (ro_build rfl (bld_struct (cs := (Rk.rep ⟨4, 0, [], [], [⟨pJoin pp.1, At.zero⟩], At.zero⟩ none 0 (some ⟨b131, 0, none⟩) 1).cs) st32 rfl)) rfl ?_
                        refine ops_eff0 rfl (eff_storeA 3 ag32 rfl rfl rfl rfl rfl (Nat.le_of_ble_eq_true rfl) (warm_zero _)) rfl ?_
                        rintro _ _ rfl
                        simp only [List.set_cons_zero, List.set_cons_succ]
                        refine ops_nil ?_
                        refine Then_normal ?_
                        refine wp_ret' ?_
                        refine InBlock_ret ?_
                        refine Then_ret ?_
                        refine' doneS_ret (resv1 rfl (rv_cellA ag32 rfl (by first | exact RdN.of_pick 0 rfl rdn_all | exact RdN.of_pick 1 rfl rdn_all | exact RdN.of_pick 2 rfl rdn_all | exact RdN.of_pick 3 rfl rdn_all | exact RdN.of_pick 4 rfl rdn_all | exact RdN.of_pick 5 rfl rdn_all | exact RdN.of_pick 6 rfl rdn_all | exact RdN.of_pick 7 rfl rdn_all | exact RdN.of_pick 8 rfl rdn_all) rfl)) ?_ ?_
                        rotate_left 1
                        exact ⟨t, hs, ⟨4, 0, [], [], [⟨pJoin pp.1, At.zero⟩], At.zero⟩, none, 0, some ⟨b131, 0, none⟩, 1, rfl, (do_path hs16 hnb h7 hr14 hpp hpe (by unfold pathR; rw [if_neg (by omega), if_neg (by omega), if_neg (by omega), if_neg (by omega), if_pos (by omega)]; exact ⟨rfl, rfl⟩)), ⟨r, hW⟩, htb, by omega, hH, rfl⟩
                        exact (SubH.cons 0 rfl (SubH.cons 0 rfl (SubH.cons 3 rfl (SubH.cons 3 rfl (SubH.cons 3 rfl (SubH.cons 3 rfl (SubH.nil _)))))))
                      · replace hc126 := of_decide_eq_false hc126
                        refine wp_seq' ?_
                        refine wp_region' ?_
                        refine ops_ro' rfl (ro_eql rfl rfl rfl) rfl ?_
                        refine ops_ro' rfl (ro_assign rfl) rfl ?_
                        refine ops_nil ?_
                        refine Then_normal ?_
                        refine wp_cond' rfl (fun hc133 => ?_) (fun hc133 => ?_)
                        · replace hc133 := of_decide_eq_true hc133
                          refine wp_seq' ?_
                          refine wp_region' ?_
                          refine ops_ro' rfl (ro_move rfl) rfl ?_
                          refine ops_ro' rfl (ro_nilCheck rfl) rfl ?_
                          refine ops_ro' rfl (ro_fieldAddr fa71_0 rfl) rfl ?_
                          refine ops_ro' rfl (ro_load sc51 rfl (Rd.pick 3 rfl (Rd.own rfl))) rfl ?_
                          refine ops_ro' rfl (ro_move rfl) rfl ?_
                          refine ops_eff' rfl (eff_callM (Pre := []) Tryz.call39 rfl rfl (Split.nil _) (tri_argc htb (look_spec (by first | exact Tv.pick 0 rfl (tree_tv t) | exact Tv.pick 1 rfl (tree_tv t) | exact Tv.pick 2 rfl (tree_tv t) | exact Tv.pick 3 rfl (tree_tv t) | exact Tv.pick 4 rfl (tree_tv t) | exact Tv.pick 5 rfl (tree_tv t) | exact Tv.pick 6 rfl (tree_tv t) | exact Tv.pick 7 rfl (tree_tv t) | exact Tv.pick 8 rfl (tree_tv t)) hW _ _ pp.1 (by first | exact Vw.pick 0 rfl Vw.row | exact Vw.pick 1 rfl Vw.row | exact Vw.pick 2 rfl Vw.row | exact Vw.pick 3 rfl Vw.row | exact Vw.pick 4 rfl Vw.row | exact Vw.pick 5 rfl Vw.row | exact Vw.pick 6 rfl Vw.row | exact Vw.pick 7 rfl Vw.row | exact Vw.pick 8 rfl Vw.row | exact Vw.nil _ | exact Vw.empty _ _) hfew))) rfl ?_
                          rintro _ H' ⟨_, ⟨rfl, rfl⟩, hH⟩
                          simp only [List.cons_append, List.nil_append, List.eraseIdx_cons_zero, List.eraseIdx_cons_succ, List.set_cons_zero, List.set_cons_succ] at hH
                          subst hH
                          obtain ⟨⟨id3, e3⟩, hz3⟩ : ∃ z : Int × Int, lookO (fnd t.ns r pp.1) = z := ⟨_, rfl⟩
                          rw [hz3]
                          dsimp only
                          refine ops_ro' rfl (ro_move rfl) rfl ?_
                          refine ops_ro' rfl (ro_extract rfl rfl) rfl ?_
                          refine ops_ro' rfl (ro_extract rfl rfl) rfl ?_
                          refine ops_ro' rfl (ro_assign rfl) rfl ?_
                          refine ops_ro' rfl (ro_assign rfl) rfl ?_
                          refine ops_nil ?_
                          refine Then_normal ?_
                          refine wp_cutK 1034 (fun Δ LL => ∃ (t3 : Tr) (e4 : Int), ((∃ r3, Wf t3 r3) ∧ t3.tb = tb ∧ t3.next ≤ t.next + 1 ∧ (if e3 = 0 then SetR t id3 q.a t3 e4 else t3 = t ∧ e4 = e3)) ∧ Δ = [(16, .int .i64 e4)] ∧ LL = [own b6 (.cells ((Rk.rep ⟨0, 0, [], [], [], At.zero⟩ none 0 none 0).cs).toArray 32 (0, 0)), own b5 (.cells (q.cs).toArray 35 (0, 0)), oMa mb tb hs, tree t3, St (hs.map rowN), V]) (Has.cons (k := 6) rfl (Has.nil _)) ?_ ?_
                          · refine wp_seq' ?_
                            refine wp_region' ?_
                            refine ops_ro' rfl (ro_move rfl) rfl ?_
                            refine ops_ro' rfl (ro_eql rfl rfl rfl) rfl ?_
                            refine ops_nil ?_
                            refine Then_normal ?_
                            refine wp_cond' rfl (fun hc145 => ?_) (fun hc145 => ?_)
                            · replace hc145 := of_decide_eq_true hc145
                              refine wp_sub' (L := [own b6 (.cells ((Rk.rep ⟨0, 0, [], [], [], At.zero⟩ none 0 none 0).cs).toArray 32 (0, 0)), own b5 (.cells (q.cs).toArray 35 (0, 0)), oMa mb tb hs, tree t, St (hs.map rowN), V]) (by repeat (first | exact SubH.nil _ | refine SubH.cons 0 rfl ?_ | refine SubH.cons 1 rfl ?_ | refine SubH.cons 2 rfl ?_ | refine SubH.cons 3 rfl ?_ | refine SubH.cons 4 rfl ?_ | refine SubH.cons 5 rfl ?_ | refine SubH.cons 6 rfl ?_ | refine SubH.cons 7 rfl ?_ | refine SubH.cons 8 rfl ?_ | refine SubH.cons 9 rfl ?_ | refine SubH.cons 10 rfl ?_ | refine SubH.cons 11 rfl ?_ | refine SubH.cons 12 rfl ?_ | refine SubH.cons 13 rfl ?_ | refine SubH.rown ?_)) ?_
                              refine wp_draw 8 (by kernel_rfl) (Split.cons 1 rfl (Split.cons 1 rfl (Split.nil _))) ?_
                              refine any_ro' (i := 0) (by kernel_rfl) rfl rfl (ro_move rfl) rfl (fun _ _ _ h => h) ?_
                              refine any_ro' (i := 1) (by kernel_rfl) rfl rfl (ro_nilCheck rfl) rfl (fun _ _ _ h => h) ?_
                              refine any_ro' (i := 2) (by kernel_rfl) rfl rfl (ro_fieldAddr fa71_0 rfl) rfl (fun _ _ _ h => h) ?_
                              refine any_ro' (i := 3) (by kernel_rfl) rfl rfl (ro_load sc51 rfl (Rd.pick 1 rfl (Rd.own rfl))) rfl (fun _ _ _ h => h) ?_
                              refine any_ro' (i := 4) (by kernel_rfl) rfl rfl (ro_move rfl) rfl (fun _ _ _ h => h) ?_
                              refine any_ro' (i := 5) (by kernel_rfl) rfl rfl (ro_fieldAddr fa35_8 rfl) rfl (fun _ _ _ h => h) ?_
                              refine any_ro' (i := 6) (by kernel_rfl) rfl rfl (ro_loadA ag30 rfl (RdN.of_pick 0 rfl (rdn_sub 7)) rfl) rfl (fun _ _ _ h => h) ?_
                              refine any_eff' (i := 7) (by kernel_rfl) rfl rfl (eff_call Tryz.call35 rfl rfl (by repeat (first | exact Split.nil _ | apply Split.cons 0 rfl | apply Split.cons 1 rfl | apply Split.cons 2 rfl | apply Split.cons 3 rfl | apply Split.cons 4 rfl | apply Split.cons 5 rfl | apply Split.cons 6 rfl | apply Split.cons 7 rfl | apply Split.cons 8 rfl | apply Split.cons 9 rfl | apply Split.cons 10 rfl | apply Split.cons 11 rfl)) (tri_argc htb (set_spec hW id3 q.a hq.a))) rfl ?_
                              rintro _ H' ⟨_, ⟨t3, e4, rfl, hR3, rfl⟩, hH⟩
                              simp only [List.cons_append, List.nil_append, List.eraseIdx_cons_zero, List.eraseIdx_cons_succ, List.set_cons_zero, List.set_cons_succ] at hH
                              subst hH
                              obtain ⟨hW3, hnx3, htb3, _⟩ := set_wf hW hq.a hR3
                              have htb3 : t3.tb = tb := by rw [htb3, htb]
                              refine any_unlock (m' := 9) (L' := []) (by kernel_rfl) unlock ?_
                              simp only [List.cons_append, List.nil_append, List.append_nil]
                              refine any_ro' (i := 8) (by kernel_rfl) rfl rfl (ro_assign rfl) rfl (fun _ _ _ h => h) ?_
                              refine any_doneH (by kernel_rfl) ?_
                              refine Then_normal ?_
                              refine over_cut (kept ⟨t3, e4, ⟨hW3, htb3, by omega, by rw [if_pos (by omega)]; exact hR3⟩, rfl, rfl⟩ ?_ ?_ ?_)
                              · exact (by repeat (first | exact Has.nil _ | refine Has.cons rfl ?_))
                              · exact (by repeat (first | exact Has.nil _ | refine Has.cons rfl ?_))
                              · exact (SubH.cons 3 rfl (SubH.cons 0 rfl (SubH.cons 0 rfl (SubH.cons 0 rfl (SubH.cons 0 rfl (SubH.cons 0 rfl (SubH.nil _)))))))
                            · replace hc145 := of_decide_eq_false hc145
                              refine wp_skip' ?_
                              refine Then_normal ?_
                              refine over_cut (kept ⟨t, e3, ⟨⟨r, hW⟩, htb, by omega, by rw [if_neg (by omega)]; exact ⟨rfl, rfl⟩⟩, rfl, rfl⟩ ?_ ?_ ?_)
                              · exact (by repeat (first | exact Has.nil _ | refine Has.cons rfl ?_))
                              · exact (by repeat (first | exact Has.nil _ | refine Has.cons rfl ?_))
                              · exact (SubH.cons 1 rfl (SubH.cons 1 rfl (SubH.cons 1 rfl (SubH.cons 1 rfl (SubH.cons 1 rfl (SubH.cons 1 rfl (SubH.nil _)))))))
                          · rintro Δ LL ⟨t3, e4, ⟨hW3, htb3, hnx3, hO3⟩, rfl, rfl⟩
                            simp only [List.cons_append, List.nil_append]
                            refine wp_seq' ?_
                            refine wp_region' ?_
                            refine ops_ro' rfl (ro_move rfl) rfl ?_
                            refine ops_eff' rfl (eff_call Tryz.call32 rfl rfl (by repeat (first | exact Split.nil _ | apply Split.cons 0 rfl | apply Split.cons 1 rfl | apply Split.cons 2 rfl | apply Split.cons 3 rfl | apply Split.cons 4 rfl | apply Split.cons 5 rfl | apply Split.cons 6 rfl | apply Split.cons 7 rfl | apply Split.cons 8 rfl | apply Split.cons 9 rfl | apply Split.cons 10 rfl | apply Split.cons 11 rfl)) (of_spec e4)) rfl ?_
                            rintro _ H' ⟨_, ⟨rfl, rfl⟩, hH⟩
                            simp only [List.cons_append, List.nil_append, List.eraseIdx_cons_zero, List.eraseIdx_cons_succ, List.set_cons_zero, List.set_cons_succ] at hH
                            subst hH
                            first | refine ops_heap (fun w F sw => rep_rows (dry_of e4) sw) ?_ | refine any_heap (fun w F sw => rep_rows (dry_of e4) sw) ?_
                            refine ops_eff0 rfl (eff_storeA 2 ag32 rfl rfl rfl rfl rfl (Nat.le_of_ble_eq_true rfl) (warm_zero _)) rfl ?_
                            rintro _ _ rfl
                            simp only [List.set_cons_zero, List.set_cons_succ]
                            refine ops_nil ?_
                            refine Then_normal ?_
                            refine wp_ret' ?_
                            refine InBlock_ret ?_
                            refine Then_ret ?_
                            refine' doneS_ret (resv1 rfl (rv_cellA ag32 rfl (by first | exact RdN.of_pick 0 rfl rdn_all | exact RdN.of_pick 1 rfl rdn_all | exact RdN.of_pick 2 rfl rdn_all | exact RdN.of_pick 3 rfl rdn_all | exact RdN.of_pick 4 rfl rdn_all | exact RdN.of_pick 5 rfl rdn_all | exact RdN.of_pick 6 rfl rdn_all | exact RdN.of_pick 7 rfl rdn_all | exact RdN.of_pick 8 rfl rdn_all) rfl)) ?_ ?_
                            rotate_left 1
                            exact ⟨t3, hs, ofK e4, none, 0, none, 0, (by first | rfl | (rw [← ofE_rep]; rfl)), (do_path hs16 hnb h7 hr14 hpp hpe (by unfold pathR; rw [if_neg (by omega), if_neg (by omega), if_neg (by omega), if_neg (by omega), if_neg (by omega), if_pos (by omega)]; rw [hz3]; dsimp only; by_cases h0 : e3 = 0; (rw [if_pos h0] at hO3 ⊢; exact ⟨e4, hO3, rfl⟩); (rw [if_neg h0] at hO3 ⊢; exact ⟨hO3.1, by rw [hO3.2]⟩))), hW3, htb3, hnx3, hH, rfl⟩
                            exact (SubH.cons 0 rfl (SubH.cons 0 rfl (SubH.cons 2 rfl (SubH.cons 2 rfl (SubH.cons 2 rfl (SubH.cons 2 rfl (SubH.nil _)))))))
                        · replace hc133 := of_decide_eq_false hc133
                          refine wp_skip' ?_
                          refine InBlock_normal ?_
                          refine Then_normal ?_
                          refine wp_seq' ?_
                          refine wp_region' ?_
                          refine ops_ro' rfl (ro_move rfl) rfl ?_
                          refine ops_ro' rfl (ro_move rfl) rfl ?_
                          refine ops_ro' rfl (ro_nilCheck rfl) rfl ?_
                          refine ops_ro' rfl (ro_fieldAddr fa71_0 rfl) rfl ?_
                          refine ops_ro' rfl (ro_load sc51 rfl (Rd.pick 3 rfl (Rd.own rfl))) rfl ?_
                          refine ops_ro' rfl (ro_move rfl) rfl ?_
                          refine ops_eff' rfl (eff_callM (Pre := []) Tryz.call39 rfl rfl (Split.nil _) (tri_argc htb (look_spec (by first | exact Tv.pick 0 rfl (tree_tv t) | exact Tv.pick 1 rfl (tree_tv t) | exact Tv.pick 2 rfl (tree_tv t) | exact Tv.pick 3 rfl (tree_tv t) | exact Tv.pick 4 rfl (tree_tv t) | exact Tv.pick 5 rfl (tree_tv t) | exact Tv.pick 6 rfl (tree_tv t) | exact Tv.pick 7 rfl (tree_tv t) | exact Tv.pick 8 rfl (tree_tv t)) hW _ _ pp.1 (by first | exact Vw.pick 0 rfl Vw.row | exact Vw.pick 1 rfl Vw.row | exact Vw.pick 2 rfl Vw.row | exact Vw.pick 3 rfl Vw.row | exact Vw.pick 4 rfl Vw.row | exact Vw.pick 5 rfl Vw.row | exact Vw.pick 6 rfl Vw.row | exact Vw.pick 7 rfl Vw.row | exact Vw.pick 8 rfl Vw.row | exact Vw.nil _ | exact Vw.empty _ _) hfew))) rfl ?_
                          rintro _ H' ⟨_, ⟨rfl, rfl⟩, hH⟩
                          simp only [List.cons_append, List.nil_append, List.eraseIdx_cons_zero, List.eraseIdx_cons_succ, List.set_cons_zero, List.set_cons_succ] at hH
                          subst hH
                          obtain ⟨⟨id3, e3⟩, hz3⟩ : ∃ z : Int × Int, lookO (fnd t.ns r pp.1) = z := ⟨_, rfl⟩
                          rw [hz3]
                          dsimp only
                          refine ops_ro' rfl (ro_extract rfl rfl) rfl ?_
                          refine ops_ro' rfl (ro_extract rfl rfl) rfl ?_
                          refine ops_eff' rfl (eff_callM (Pre := []) Tryz.call40 rfl rfl (Split.nil _) (told16_spec (by first | exact Mq.of 0 1 rfl rfl htb | exact Mq.of 0 2 rfl rfl htb | exact Mq.of 0 3 rfl rfl htb | exact Mq.of 0 4 rfl rfl htb | exact Mq.of 1 0 rfl rfl htb | exact Mq.of 1 2 rfl rfl htb | exact Mq.of 1 3 rfl rfl htb | exact Mq.of 1 4 rfl rfl htb | exact Mq.of 2 0 rfl rfl htb | exact Mq.of 2 1 rfl rfl htb | exact Mq.of 2 3 rfl rfl htb | exact Mq.of 2 4 rfl rfl htb | exact Mq.of 3 0 rfl rfl htb | exact Mq.of 3 1 rfl rfl htb | exact Mq.of 3 2 rfl rfl htb | exact Mq.of 3 4 rfl rfl htb) hdl id3 e3)) rfl ?_
                          rintro _ H' ⟨_, ⟨rfl, rfl⟩, hH⟩
                          simp only [List.cons_append, List.nil_append, List.eraseIdx_cons_zero, List.eraseIdx_cons_succ, List.set_cons_zero, List.set_cons_succ] at hH
                          subst hH
                          first | refine ops_heap (fun w F sw => rep_rows (dry_told t id3 e3) sw) ?_ | refine any_heap (fun w F sw => rep_rows (dry_told t id3 e3) sw) ?_
                          refine ops_eff0 rfl (eff_storeA 3 ag32 rfl rfl rfl rfl rfl (Nat.le_of_ble_eq_true rfl) (warm_zero _)) rfl ?_
                          rintro _ _ rfl
                          simp only [List.set_cons_zero, List.set_cons_succ]
                          refine ops_nil ?_
                          refine Then_normal ?_
                          refine wp_ret' ?_
                          refine' doneS_ret (resv1 rfl (rv_cellA ag32 rfl (by first | exact RdN.of_pick 0 rfl rdn_all | exact RdN.of_pick 1 rfl rdn_all | exact RdN.of_pick 2 rfl rdn_all | exact RdN.of_pick 3 rfl rdn_all | exact RdN.of_pick 4 rfl rdn_all | exact RdN.of_pick 5 rfl rdn_all | exact RdN.of_pick 6 rfl rdn_all | exact RdN.of_pick 7 rfl rdn_all | exact RdN.of_pick 8 rfl rdn_all) rfl)) ?_ ?_
                          rotate_left 1
                          exact ⟨t, hs, toldK t id3 e3, none, 0, none, 0, (by first | rfl | (rw [← ofE_rep]; rfl)), (do_path hs16 hnb h7 hr14 hpp hpe (by unfold pathR; rw [if_neg (by omega), if_neg (by omega), if_neg (by omega), if_neg (by omega), if_neg (by omega), if_neg (by omega)]; rw [hz3]; exact ⟨rfl, rfl⟩)), ⟨r, hW⟩, htb, by omega, hH, rfl⟩
                          exact (SubH.cons 0 rfl (SubH.cons 0 rfl (SubH.cons 3 rfl (SubH.cons 3 rfl (SubH.cons 3 rfl (SubH.cons 3 rfl (SubH.nil _)))))))

end Go.Proofs.YtlefpllcgcicpaaGreatDoor
namespace Go.Proofs.YtlefpllcgcicpaaGreatDoor
open Go.Sx
set_option linter.unusedVariables false
set_option linter.unusedSimpArgs false
set_option maxRecDepth 100000
set_option maxHeartbeats 4000000

theorem rows_new : ∀ (n : Nat) {L : List HProp} {w : World} {F : HProp} (_ : sat w (star (St L) F)), sat w (star (St (St ((List.replicate n Hd.zero).map rowN) :: L)) F)
  | 0, L, w, F, s => by
    rw [St_cons]
    show sat w (star (star (St []) (St L)) F)
    rw [St_nil, emp_star]; exact s
  | n + 1, L, w, F, s => by
    have s1 := nil_row 87 8 w F (rows_new n s)
    rw [St_cons, St_cons, ← star_assoc] at s1
    rw [St_cons, show (List.replicate (n + 1) Hd.zero).map rowN = rowN Hd.zero :: (List.replicate n Hd.zero).map rowN from rfl, St_cons]
    exact s1
theorem hs0_ok : HsOk (List.replicate 256 Hd.zero) := ⟨List.length_replicate, fun h hh => by rw [List.eq_of_mem_replicate hh]; exact ⟨by decide, by decide, by decide⟩⟩
theorem fnew_spec : Tri Tryz.prog 11 [] [] (fun v H' => ∃ mb t r, v = .pointer (some ⟨mb, 0, none⟩) ∧ t.ns = [r] ∧ t.next = 1 ∧ Wf t r ∧ H' = [oMa mb t.tb (List.replicate 256 Hd.zero), tree t, St ((List.replicate 256 Hd.zero).map rowN)]) := by
  refine tri_of_wpS Tryz.func11 rfl Tryz.ntmps11 (by simp) ?_
  refine wp_seq' ?_
  refine wp_region' ?_
  refine ops_ro' rfl (ro_assign rfl) rfl ?_
  refine ops_nil ?_
  refine Then_normal ?_
  refine wp_seq' ?_
  refine wp_region' ?_
  refine ops_eff' rfl (eff_call Tryz.call27 rfl rfl (by repeat (first | exact Split.nil _ | apply Split.cons 0 rfl | apply Split.cons 1 rfl | apply Split.cons 2 rfl | apply Split.cons 3 rfl | apply Split.cons 4 rfl | apply Split.cons 5 rfl | apply Split.cons 6 rfl | apply Split.cons 7 rfl | apply Split.cons 8 rfl | apply Split.cons 9 rfl | apply Split.cons 10 rfl | apply Split.cons 11 rfl)) (new_spec)) rfl ?_
  rintro _ H' ⟨_, ⟨t, r, rfl, hn1, hn2, hW, rfl⟩, hH⟩
  simp only [List.cons_append, List.nil_append, List.eraseIdx_cons_zero, List.eraseIdx_cons_succ, List.set_cons_zero, List.set_cons_succ] at hH
  subst hH
  refine ops_ro' rfl (ro_build rfl (bld_struct (cs := .pointer (some ⟨t.tb, 0, none⟩) :: flat Hd.cs (List.replicate 256 Hd.zero)) st71 (by kernel_rfl))) rfl ?_
  refine ops_eff' rfl (eff_box rfl) rfl ?_
  rintro _ _ ⟨b3, rfl, rfl⟩
  refine ops_ro' rfl (ro_assign rfl) rfl ?_
  refine ops_nil ?_
  refine wp_heap (fun w F sw => rows_new 256 sw) ?_
  refine wp_ret' ?_
  refine' doneS_ret (res1 rfl rfl) ?_ ?_
  rotate_left 1
  exact ⟨b3, t, r, rfl, hn1, hn2, hW, rfl⟩
  exact (SubH.cons 1 rfl (SubH.cons 1 rfl (SubH.cons 0 rfl (SubH.nil _))))

end Go.Proofs.YtlefpllcgcicpaaGreatDoor
namespace Go.Proofs.YtlefpllcgcicpaaGreatDoor
open Go.Sx
set_option linter.unusedVariables false
set_option linter.unusedSimpArgs false
set_option maxRecDepth 100000
set_option maxHeartbeats 4000000

/-- a session's handles that are used, of the first n -/
def opH (hs : List Hd) (s n : Nat) : List (List UInt8) := ((List.range n).filter fun i => (hdA hs s i).used).map hname
theorem opH_len (hs : List Hd) (s n : Nat) : (opH hs s n).length ≤ n := by
  unfold opH
  rw [List.length_map]
  exact Nat.le_trans (List.length_filter_le _ _) (by rw [List.length_range]; exact Nat.le_refl _)
theorem opH_yes {hs : List Hd} {s i : Nat} (h : (hdA hs s i).used = true) : opH hs s (i + 1) = opH hs s i ++ [hname i] := by
  unfold opH
  rw [List.range_succ, List.filter_append, List.map_append]
  simp [h]
theorem opH_no {hs : List Hd} {s i : Nat} (h : (hdA hs s i).used = false) : opH hs s (i + 1) = opH hs s i := by
  unfold opH
  rw [List.range_succ, List.filter_append, List.map_append]
  simp [h]
theorem fopens_spec {V : HProp} {mb : Nat} {hs : List Hd} (hM : Hv V mb hs) (hl : hs.length = 256) (s : Nat) (hs16 : s < 16) : Tri Tryz.prog 18 [.pointer (some ⟨mb, 0, none⟩), .int .i64 (s : Int)] [V] (fun v H' => ∃ K, (∃ p c, v = .slice p (opH hs s 16).length c ∧ K = [row 9 1 (.slice p (opH hs s 16).length c) (opH hs s 16).length (txs (opH hs s 16))]) ∧ H' = K ++ [V]) := by
  refine tri_of_wpS Tryz.func18 rfl Tryz.ntmps18 (by simp) ?_
  refine wp_seq' ?_
  refine wp_region' ?_
  refine ops_ro' rfl (ro_assign rfl) rfl ?_
  refine ops_nil ?_
  refine Then_normal ?_
  refine wp_seq' ?_
  refine wp_region' ?_
  refine ops_ro' rfl (ro_assign rfl) rfl ?_
  refine ops_nil ?_
  refine Then_normal ?_
  refine wp_seq' ?_
  refine wp_seq' ?_
  refine wp_region' ?_
  refine ops_ro' rfl (ro_move rfl) rfl ?_
  refine ops_ro' rfl (ro_lss rfl rfl (decide_eq_false (by omega))) rfl ?_
  refine ops_ro' rfl (ro_move (v := .bool false) rfl) rfl ?_
  refine ops_ro' rfl (ro_move rfl) rfl ?_
  refine ops_ro' rfl (ro_geq rfl rfl (decide_eq_false (by omega))) rfl ?_
  refine ops_ro' rfl (ro_pick rfl rfl) rfl ?_
  refine ops_nil ?_
  refine Then_normal ?_
  refine wp_condF rfl ?_
  refine wp_skip' ?_
  refine Then_normal ?_
  refine wp_seq' ?_
  refine wp_seq' ?_
  refine wp_heap (fun w F sw => nil_row 9 1 w F sw) ?_
  refine wp_region' ?_
  refine ops_ro' rfl (ro_move rfl) rfl ?_
  refine ops_ro' rfl (ro_move rfl) rfl ?_
  refine ops_ro' rfl (ro_nilCheck rfl) rfl ?_
  refine ops_ro' rfl (ro_fieldAddr fa71_1 rfl) rfl ?_
  refine ops_ro' rfl (ro_indexArr Tryz.underlying69 (fun w => Tryz.sizeOf68 w) rfl rfl rfl (by omega)) rfl ?_
  refine ops_ro' rfl (ro_loadA ag68 rfl (RdN.of_pick 1 rfl (seat_at hM hl hs16)) (by rw [flat_len Hd.len, List.length_take, List.length_drop]; omega)) rfl ?_
  refine ops_ro' rfl (ro_move rfl) rfl ?_
  refine ops_nil ?_
  refine Then_normal ?_
  refine wp_block' ?_
  refine wp_loopK 5 (fun m Δ LL => ∃ (i : Nat) (p5 : Option Addr) (c5 : Nat), (i + m = 16) ∧ Δ = [(5, .slice p5 (opH hs s i).length c5), (20, .int .i64 (i : Nat))] ∧ LL = [row 9 1 (.slice p5 (opH hs s i).length c5) (opH hs s i).length (txs (opH hs s i)), V]) (m := 16) (Has.cons (k := 19) rfl (Has.nil _)) (kept ⟨0, none, 0, by omega, rfl, rfl⟩ (by repeat (first | exact Has.nil _ | refine Has.cons rfl ?_)) (by repeat (first | exact Has.nil _ | refine Has.cons rfl ?_)) (by repeat (first | exact SubH.nil _ | refine SubH.cons 0 rfl ?_ | refine SubH.cons 1 rfl ?_ | refine SubH.cons 2 rfl ?_ | refine SubH.cons 3 rfl ?_ | refine SubH.cons 4 rfl ?_ | refine SubH.cons 5 rfl ?_ | refine SubH.cons 6 rfl ?_ | refine SubH.cons 7 rfl ?_ | refine SubH.cons 8 rfl ?_ | refine SubH.cons 9 rfl ?_ | refine SubH.cons 10 rfl ?_ | refine SubH.cons 11 rfl ?_ | refine SubH.cons 12 rfl ?_ | refine SubH.cons 13 rfl ?_ | refine SubH.rown ?_))) ?_
  rintro m Δ LL ⟨i, p5, c5, hm, rfl, rfl⟩
  simp only [List.cons_append, List.nil_append]
  refine wp_seq' ?_
  refine wp_region' ?_
  refine ops_ro' rfl (ro_lss rfl rfl rfl) rfl ?_
  refine ops_nil ?_
  refine Then_normal ?_
  refine wp_seq' ?_
  refine wp_cond' rfl (fun hc21 => ?_) (fun hc21 => ?_)
  · replace hc21 := of_decide_eq_true hc21
    have hi : i < 16 := by omega
    have hol := opH_len hs s i
    refine wp_skip' ?_
    refine Then_normal ?_
    refine wp_seq' ?_
    refine wp_block' ?_
    refine wp_seq' ?_
    refine wp_region' ?_
    refine ops_ro' rfl (ro_move rfl) rfl ?_
    refine ops_ro' rfl (ro_indexF Hd.len Tryz.underlying68 ag67 rfl rfl rfl hi (seat_get hl hs16 hi)) rfl ?_
    refine ops_eff' rfl (eff_alloc z67) rfl ?_
    rintro _ _ ⟨b7, rfl, rfl⟩
    refine ops_ro' rfl (ro_assign rfl) rfl ?_
    refine ops_eff0 rfl (eff_storeA 0 ag67 rfl rfl rfl rfl rfl (Nat.le_of_ble_eq_true rfl) (warm_zero _)) rfl ?_
    rintro _ _ rfl
    simp only [List.set_cons_zero, List.set_cons_succ]
    refine ops_nil ?_
    refine Then_normal ?_
    refine wp_seq' ?_
    refine wp_region' ?_
    refine ops_ro' rfl (ro_fieldAddr fa67_0 rfl) rfl ?_
    refine ops_ro' rfl (ro_load sc4 rfl (Rd.pick 0 rfl (Rd.own rfl))) rfl ?_
    refine ops_nil ?_
    refine Then_normal ?_
    refine wp_cond' rfl (fun hc25 => ?_) (fun hc25 => ?_)
    · skip
      refine wp_region' ?_
      refine ops_ro' rfl (ro_move rfl) rfl ?_
      refine ops_ro' rfl (ro_move rfl) rfl ?_
      refine ops_eff' rfl (eff_call Tryz.call42 rfl rfl (by repeat (first | exact Split.nil _ | apply Split.cons 0 rfl | apply Split.cons 1 rfl | apply Split.cons 2 rfl | apply Split.cons 3 rfl | apply Split.cons 4 rfl | apply Split.cons 5 rfl | apply Split.cons 6 rfl | apply Split.cons 7 rfl | apply Split.cons 8 rfl | apply Split.cons 9 rfl | apply Split.cons 10 rfl | apply Split.cons 11 rfl)) (named_spec i (by omega))) rfl ?_
      rintro _ H' ⟨_, ⟨rfl, rfl⟩, hH⟩
      simp only [List.cons_append, List.nil_append, List.eraseIdx_cons_zero, List.eraseIdx_cons_succ, List.set_cons_zero, List.set_cons_succ] at hH
      subst hH
      refine ops_eff' rfl (eff_lit sl47 rfl (sbld (cs := txs [hname i]) [(.string ByteArray.empty)] sl47 (by decide) (by kernel_rfl) rfl) rfl (by decide)) rfl ?_
      rintro _ _ ⟨b29, rfl, rfl⟩
      refine ops_eff' rfl (eff_appF (f := Tx.cs) (l2 := [hname i]) 2 sl47 (.inl ⟨9, Tryz.underlying47⟩) rfl rfl rfl (by first | exact Src.flatv Tx.len Tx.one (Vw.pick 0 rfl Vw.row) | exact Src.flatv Tx.len Tx.one (Vw.pick 1 rfl Vw.row) | exact Src.flatv Tx.len Tx.one (Vw.pick 2 rfl Vw.row) | exact Src.flatv Tx.len Tx.one (Vw.pick 3 rfl Vw.row)) (by simp only [List.length_cons, List.length_nil]; omega) (by simp only [List.length_cons, List.length_nil]; omega)) rfl ?_
      rintro _ _ ⟨p30, c30, rfl, hn30, rfl⟩
      simp only [List.set_cons_zero, List.set_cons_succ]
      rw [← opH_yes hc25]
      refine ops_ro' rfl (ro_assign rfl) rfl ?_
      refine ops_nil ?_
      refine InBlock_normal ?_
      refine Then_normal ?_
      refine wp_region' ?_
      refine ops_ro' rfl (ro_add rfl rfl (wrap_inc (by omega))) rfl ?_
      refine ops_ro' rfl (ro_move rfl) rfl ?_
      refine ops_nil ?_
      refine Then_normal ?_
      refine back (m - 1) (by omega) (kept ⟨i + 1, p30, c30, by omega, rfl, rfl⟩ ?_ ?_ ?_)
      · exact (by repeat (first | exact Has.nil _ | refine Has.cons rfl ?_))
      · exact (by repeat (first | exact Has.nil _ | refine Has.cons rfl ?_))
      · exact (SubH.cons 2 rfl (SubH.cons 2 rfl (SubH.nil _)))
    · skip
      have hn := opH_no hc25
      rw [← hn]
      refine wp_skip' ?_
      refine InBlock_normal ?_
      refine Then_normal ?_
      refine wp_region' ?_
      refine ops_ro' rfl (ro_add rfl rfl (wrap_inc (by omega))) rfl ?_
      refine ops_ro' rfl (ro_move rfl) rfl ?_
      refine ops_nil ?_
      refine Then_normal ?_
      refine back (m - 1) (by omega) (kept ⟨i + 1, p5, c5, by omega, rfl, rfl⟩ ?_ ?_ ?_)
      · exact (by repeat (first | exact Has.nil _ | refine Has.cons rfl ?_))
      · exact (by repeat (first | exact Has.nil _ | refine Has.cons rfl ?_))
      · exact (SubH.cons 1 rfl (SubH.cons 1 rfl (SubH.nil _)))
  · replace hc21 := of_decide_eq_false hc21
    refine wp_exit' ?_
    refine Then_exit ?_
    refine Then_exit ?_
    refine InBlock_here ?_
    refine Then_normal ?_
    refine wp_seq' ?_
    refine wp_region' ?_
    refine ops_ro' rfl (ro_move rfl) rfl ?_
    refine ops_ro' rfl (ro_assign rfl) rfl ?_
    refine ops_nil ?_
    refine Then_normal ?_
    refine wp_ret' ?_
    rw [show i = 16 by omega]
    refine' doneS_ret (res1 rfl rfl) ?_ ?_
    rotate_left 1
    exact ⟨_, ⟨p5, c5, rfl, rfl⟩, rfl⟩
    exact SubH.refl _
theorem bld_array {t e : TypeId} {m size : Nat} {zs : List Value} {parts : List (Nat × Value)} {cs : List Value} (hz : Zero Tryz.prog t (.agg zs.toArray)) (hu : Tryz.prog.underlying t = some (.array m e)) (hs : ∀ w, (sizeOf e).run Tryz.prog w = .ok size w)
    (hf : fillL (fun i => some (i * size, size)) zs parts = some cs) : Bld Tryz.prog t parts (.agg cs.toArray) := fun w => by
  have hf' := fill_eq (fun i => some (i * size, size)) parts zs cs hf
  unfold Instr.build
  simp only [Sem.run_bind, hz w, Result.andThen_ok, run_underlying hu, hs w, Value.cells, hf', Sem.run_pure]
/-- a session's handles are dropped -/
def dropH (hs : List Hd) (s : Nat) : List Hd := hs.take (s * 16) ++ List.replicate 16 Hd.zero ++ hs.drop (s * 16 + 16)
theorem ma_drop {p : Value} {hs : List Hd} {s : Nat} (hl : hs.length = 256) (h16 : s < 16) : over (p :: flat Hd.cs hs) (0 + 1 + s * 80) (flat Hd.cs (List.replicate 16 Hd.zero)) = p :: flat Hd.cs (dropH hs s) := by
  rw [show p :: flat Hd.cs hs = [p] ++ flat Hd.cs hs from rfl, show 0 + 1 + s * 80 = [p].length + s * 16 * 5 by simp only [List.length_cons, List.length_nil]; omega, over_app_right]
  have e : over (flat Hd.cs hs) (s * 16 * 5) (flat Hd.cs (List.replicate 16 Hd.zero)) = flat Hd.cs (dropH hs s) := by
    unfold over dropH
    rw [flat_append, flat_append, flat_take Hd.len, flat_len Hd.len, List.length_replicate, show s * 16 * 5 + 16 * 5 = (s * 16 + 16) * 5 by omega, flat_drop Hd.len]
  rw [e]; rfl
theorem dropH_ok {hs : List Hd} (h : HsOk hs) {s : Nat} (h16 : s < 16) : HsOk (dropH hs s) := by
  have hl := h.len
  refine ⟨by unfold dropH; simp only [List.length_append, List.length_take, List.length_drop, List.length_replicate]; omega, fun y hy => ?_⟩
  unfold dropH at hy
  rcases List.mem_append.1 hy with hy | hy
  · rcases List.mem_append.1 hy with hy | hy
    · exact h.all y (List.mem_of_mem_take hy)
    · rw [List.eq_of_mem_replicate hy]; exact ⟨by decide, by decide, by decide⟩
  · exact h.all y (List.mem_of_mem_drop hy)
theorem hdA_drop {hs : List Hd} (hl : hs.length = 256) {s s2 j : Nat} (h16 : s < 16) (hj : j < 16) (h2 : s2 < 16) : hdA (dropH hs s) s2 j = if s2 = s then Hd.zero else hdA hs s2 j := by
  unfold hdA dropH
  rw [List.getD_eq_getElem?_getD, List.getD_eq_getElem?_getD]
  have h1 : (hs.take (s * 16)).length = s * 16 := by rw [List.length_take]; omega
  by_cases e : s2 = s
  · subst e
    rw [if_pos rfl, List.append_assoc, List.getElem?_append_right (by omega), List.getElem?_append_left (by rw [List.length_replicate]; omega), List.getElem?_replicate, if_pos (by omega)]; rfl
  · rw [if_neg e]
    by_cases hlt : s2 < s
    · rw [List.append_assoc, List.getElem?_append_left (by omega), List.getElem?_take, if_pos (by omega)]
    · rw [List.getElem?_append_right (by rw [List.length_append, h1, List.length_replicate]; omega), List.length_append, h1, List.length_replicate, List.getElem?_drop]
      rw [show s * 16 + 16 + (s2 * 16 + j - (s * 16 + 16)) = s2 * 16 + j by omega]
theorem rows_drop {hs : List Hd} {s : Nat} {L : List HProp} {w : World} {F : HProp} (sw : sat w (star (St (St ((List.replicate 16 Hd.zero).map rowN) :: St (hs.map rowN) :: L)) F)) : sat w (star (St (St ((dropH hs s).map rowN) :: L)) F) := by
  have e : hs = hs.take (s * 16) ++ ((hs.drop (s * 16)).take 16 ++ hs.drop (s * 16 + 16)) := by
    rw [← List.drop_drop, List.take_append_drop, List.take_append_drop]
  have e1 : St (hs.map rowN) = star (St ((hs.take (s * 16)).map rowN)) (star (St (((hs.drop (s * 16)).take 16).map rowN)) (St ((hs.drop (s * 16 + 16)).map rowN))) := by
    conv => lhs; rw [e]
    rw [List.map_append, List.map_append, St_append, St_append]
  have e2 : St ((dropH hs s).map rowN) = star (St ((hs.take (s * 16)).map rowN)) (star (St ((List.replicate 16 Hd.zero).map rowN)) (St ((hs.drop (s * 16 + 16)).map rowN))) := by
    unfold dropH
    rw [List.map_append, List.map_append, St_append, St_append, star_assoc]
  have h1 : SubH [St ((List.replicate 16 Hd.zero).map rowN), St ((hs.take (s * 16)).map rowN), St (((hs.drop (s * 16)).take 16).map rowN), St ((hs.drop (s * 16 + 16)).map rowN), St L] [St ((hs.take (s * 16)).map rowN), St ((List.replicate 16 Hd.zero).map rowN), St ((hs.drop (s * 16 + 16)).map rowN), St L] :=
    SubH.cons 1 rfl (SubH.cons 0 rfl (SubH.cons 1 rfl (SubH.cons 1 rfl (SubH.nil _))))
  have s2 := h1 w F (by rw [St_cons, St_cons, e1] at sw; simpa only [St_cons, St_nil, star_emp, star_assoc] using sw)
  rw [St_cons, e2]
  simpa only [St_cons, St_nil, star_emp, star_assoc] using s2
theorem fdrop_spec {mb tb : Nat} {hs : List Hd} (hl : hs.length = 256) (s : Nat) (hs16 : s < 16) : Tri Tryz.prog 19 [.pointer (some ⟨mb, 0, none⟩), .int .i64 (s : Int)] [oMa mb tb hs, St (hs.map rowN)] (fun v H' => v = .tuple #[] ∧ H' = [oMa mb tb (dropH hs s), St ((dropH hs s).map rowN)]) := by
  refine tri_weak (Ψ := fun v H' => v = .tuple #[] ∧ H' = [St ((List.replicate 16 Hd.zero).map rowN), oMa mb tb (dropH hs s), St (hs.map rowN)]) ?_ fun v H h => ?_
  · skip
    refine tri_of_wpS Tryz.func19 rfl Tryz.ntmps19 (by simp) ?_
    refine wp_seq' ?_
    refine wp_region' ?_
    refine ops_ro' rfl (ro_move rfl) rfl ?_
    refine ops_ro' rfl (ro_geq rfl rfl (decide_eq_true (by omega))) rfl ?_
    refine ops_ro' rfl (ro_move (v := .bool true) rfl) rfl ?_
    refine ops_ro' rfl (ro_move rfl) rfl ?_
    refine ops_ro' rfl (ro_lss rfl rfl (decide_eq_true (by omega))) rfl ?_
    refine ops_ro' rfl (ro_pick rfl rfl) rfl ?_
    refine ops_nil ?_
    refine Then_normal ?_
    refine wp_condT rfl ?_
    refine wp_heap (fun w F sw => rows_new 16 sw) ?_
    refine wp_region' ?_
    refine ops_ro' rfl (ro_move rfl) rfl ?_
    refine ops_ro' rfl (ro_move rfl) rfl ?_
    refine ops_ro' rfl (ro_build rfl (bld_array (cs := flat Hd.cs (List.replicate 16 Hd.zero)) z68 Tryz.underlying68 (fun w => Tryz.sizeOf67 w) (by kernel_rfl))) rfl ?_
    refine ops_ro' rfl (ro_nilCheck rfl) rfl ?_
    refine ops_ro' rfl (ro_fieldAddr fa71_1 rfl) rfl ?_
    refine ops_ro' rfl (ro_indexArr Tryz.underlying69 (fun w => Tryz.sizeOf68 w) rfl rfl rfl (by omega)) rfl ?_
    refine ops_eff0 rfl (eff_storeA (vs := flat Hd.cs (List.replicate 16 Hd.zero)) 1 ag68 rfl rfl rfl (by kernel_rfl) rfl (by simp only [List.length_cons, flat_len Hd.len, List.length_replicate, hl]; omega) (warm_zero _)) rfl ?_
    rintro _ _ rfl
    simp only [List.set_cons_zero, List.set_cons_succ]
    rw [ma_drop hl hs16]
    refine ops_nil ?_
    refine' doneS_normal (res0 rfl) ?_ ?_
    rotate_left 1
    exact ⟨rfl, rfl⟩
    exact SubH.refl _
  · obtain ⟨h1, rfl⟩ := h
    refine ⟨_, ⟨h1, rfl⟩, fun w F sw => ?_⟩
    have h2 : SubH [St ((List.replicate 16 Hd.zero).map rowN), oMa mb tb (dropH hs s), St (hs.map rowN)] [St ((List.replicate 16 Hd.zero).map rowN), St (hs.map rowN), oMa mb tb (dropH hs s)] := SubH.cons 0 rfl (SubH.cons 1 rfl (SubH.cons 0 rfl (SubH.nil _)))
    have h3 := rows_drop (s := s) (h2 w F sw)
    exact (SubH.cons (L := [St ((dropH hs s).map rowN)]) 1 rfl (SubH.cons 0 rfl (SubH.nil _))) w F h3

end Go.Proofs.YtlefpllcgcicpaaGreatDoor
namespace Go.Proofs.YtlefpllcgcicpaaGreatDoor
open Go.Sx
set_option linter.unusedVariables false
set_option linter.unusedSimpArgs false
set_option maxRecDepth 100000
set_option maxHeartbeats 4000000

theorem u64_rem300 (a : Nat) : ((a : Int)).tmod ((300 : Nat) : Int) = ((a % 300 : Nat) : Int) := tmodN
def tmA (a : At) : At := if a.f &&& 1 ≠ 0 then { a with s := a.s % 300 } else a
def tmQ (q : Qr) (p : Option Addr) (c : Nat) : Qr := ⟨q.kind, q.path.take 60, q.dest.take 60, q.handle.take 5, q.off % 300, q.len, p, c, q.data.take 100, q.flags, tmA q.a⟩
theorem tame_spec (V : HProp) (q : Qr) (hf : q.a.f < 4294967296) (hV : Vw V (.slice q.dp q.data.length q.dc) q.data.length (cel q.data)) (hc : q.data.length ≤ q.dc) :
    Tri Tryz.prog 41 [q.v] [V] (fun v H' => ∃ p c, v = (tmQ q p c).v ∧ Vw V (.slice p (q.data.take 100).length c) (q.data.take 100).length (cel (q.data.take 100)) ∧ (q.data.take 100).length ≤ c ∧ H' = [V]) := by
  refine tri_of_wpS Tryz.func41 rfl Tryz.ntmps41 (by simp) ?_
  refine wp_seq' ?_
  refine wp_region' ?_
  refine ops_eff' rfl (eff_box rfl) rfl ?_
  rintro _ _ ⟨b1, rfl, rfl⟩
  refine ops_eff' rfl (eff_alloc z35) rfl ?_
  rintro _ _ ⟨b2, rfl, rfl⟩
  refine ops_nil ?_
  refine Then_normal ?_
  refine wp_seq' ?_
  refine wp_region' ?_
  refine ops_ro' rfl (ro_fieldAddr fa35_1 rfl) rfl ?_
  refine ops_ro' rfl (ro_load sc9 rfl (Rd.pick 1 rfl (Rd.own rfl))) rfl ?_
  refine ops_eff' rfl (eff_call Tryz.call84 rfl rfl (by repeat (first | exact Split.nil _ | apply Split.cons 0 rfl | apply Split.cons 1 rfl | apply Split.cons 2 rfl | apply Split.cons 3 rfl | apply Split.cons 4 rfl | apply Split.cons 5 rfl | apply Split.cons 6 rfl | apply Split.cons 7 rfl | apply Split.cons 8 rfl | apply Split.cons 9 rfl | apply Split.cons 10 rfl | apply Split.cons 11 rfl)) (kHead q.path 60)) rfl ?_
  rintro _ H' ⟨_, ⟨rfl, rfl⟩, hH⟩
  simp only [List.cons_append, List.nil_append, List.eraseIdx_cons_zero, List.eraseIdx_cons_succ, List.set_cons_zero, List.set_cons_succ] at hH
  subst hH
  refine ops_ro' rfl (ro_fieldAddr fa35_1 rfl) rfl ?_
  refine ops_eff0 rfl (eff_store 1 sc9 rfl rfl rfl rfl (Nat.le_of_ble_eq_true rfl) (warm_zero _)) rfl ?_
  rintro _ _ rfl
  refine ops_nil ?_
  refine Then_normal ?_
  refine wp_seq' ?_
  refine wp_region' ?_
  refine ops_ro' rfl (ro_fieldAddr fa35_2 rfl) rfl ?_
  refine ops_ro' rfl (ro_load sc9 rfl (Rd.pick 1 rfl (Rd.own rfl))) rfl ?_
  refine ops_eff' rfl (eff_call Tryz.call84 rfl rfl (by repeat (first | exact Split.nil _ | apply Split.cons 0 rfl | apply Split.cons 1 rfl | apply Split.cons 2 rfl | apply Split.cons 3 rfl | apply Split.cons 4 rfl | apply Split.cons 5 rfl | apply Split.cons 6 rfl | apply Split.cons 7 rfl | apply Split.cons 8 rfl | apply Split.cons 9 rfl | apply Split.cons 10 rfl | apply Split.cons 11 rfl)) (kHead q.dest 60)) rfl ?_
  rintro _ H' ⟨_, ⟨rfl, rfl⟩, hH⟩
  simp only [List.cons_append, List.nil_append, List.eraseIdx_cons_zero, List.eraseIdx_cons_succ, List.set_cons_zero, List.set_cons_succ] at hH
  subst hH
  refine ops_ro' rfl (ro_fieldAddr fa35_2 rfl) rfl ?_
  refine ops_eff0 rfl (eff_store 1 sc9 rfl rfl rfl rfl (Nat.le_of_ble_eq_true rfl) (warm_zero _)) rfl ?_
  rintro _ _ rfl
  refine ops_nil ?_
  refine Then_normal ?_
  refine wp_seq' ?_
  refine wp_region' ?_
  refine ops_ro' rfl (ro_fieldAddr fa35_3 rfl) rfl ?_
  refine ops_ro' rfl (ro_load sc9 rfl (Rd.pick 1 rfl (Rd.own rfl))) rfl ?_
  refine ops_eff' rfl (eff_call Tryz.call84 rfl rfl (by repeat (first | exact Split.nil _ | apply Split.cons 0 rfl | apply Split.cons 1 rfl | apply Split.cons 2 rfl | apply Split.cons 3 rfl | apply Split.cons 4 rfl | apply Split.cons 5 rfl | apply Split.cons 6 rfl | apply Split.cons 7 rfl | apply Split.cons 8 rfl | apply Split.cons 9 rfl | apply Split.cons 10 rfl | apply Split.cons 11 rfl)) (kHead q.handle 5)) rfl ?_
  rintro _ H' ⟨_, ⟨rfl, rfl⟩, hH⟩
  simp only [List.cons_append, List.nil_append, List.eraseIdx_cons_zero, List.eraseIdx_cons_succ, List.set_cons_zero, List.set_cons_succ] at hH
  subst hH
  refine ops_ro' rfl (ro_fieldAddr fa35_3 rfl) rfl ?_
  refine ops_eff0 rfl (eff_store 1 sc9 rfl rfl rfl rfl (Nat.le_of_ble_eq_true rfl) (warm_zero _)) rfl ?_
  rintro _ _ rfl
  refine ops_nil ?_
  refine Then_normal ?_
  refine wp_seq' ?_
  refine wp_region' ?_
  refine ops_ro' rfl (ro_fieldAddr fa35_6 rfl) rfl ?_
  refine ops_ro' rfl (ro_load sc25 rfl (Rd.pick 1 rfl (Rd.own rfl))) rfl ?_
  refine ops_eff' rfl (eff_call Tryz.call16 rfl rfl (by repeat (first | exact Split.nil _ | apply Split.cons 0 rfl | apply Split.cons 1 rfl | apply Split.cons 2 rfl | apply Split.cons 3 rfl | apply Split.cons 4 rfl | apply Split.cons 5 rfl | apply Split.cons 6 rfl | apply Split.cons 7 rfl | apply Split.cons 8 rfl | apply Split.cons 9 rfl | apply Split.cons 10 rfl | apply Split.cons 11 rfl)) (kCut V q.dp q.dc q.data 100 hV hc)) rfl ?_
  rintro _ H' ⟨_, ⟨_, ⟨p17, c17, rfl, hv17, hc17, rfl⟩, rfl⟩, hH⟩
  simp only [List.cons_append, List.nil_append, List.eraseIdx_cons_zero, List.eraseIdx_cons_succ, List.set_cons_zero, List.set_cons_succ] at hH
  subst hH
  refine ops_ro' rfl (ro_fieldAddr fa35_6 rfl) rfl ?_
  refine ops_eff0 rfl (eff_store 2 sc25 rfl rfl rfl rfl (Nat.le_of_ble_eq_true rfl) (warm_zero _)) rfl ?_
  rintro _ _ rfl
  refine ops_nil ?_
  refine Then_normal ?_
  refine wp_seq' ?_
  refine wp_region' ?_
  refine ops_ro' rfl (ro_fieldAddr fa35_4 rfl) rfl ?_
  refine ops_ro' rfl (ro_load sc28 rfl (Rd.pick 2 rfl (Rd.own rfl))) rfl ?_
  refine ops_ro' rfl (ro_rem rfl rfl (by omega) (u64_rem300 _)) rfl ?_
  refine ops_ro' rfl (ro_fieldAddr fa35_4 rfl) rfl ?_
  refine ops_eff0 rfl (eff_store 2 sc28 rfl rfl rfl rfl (Nat.le_of_ble_eq_true rfl) (warm_zero _)) rfl ?_
  rintro _ _ rfl
  refine ops_nil ?_
  refine Then_normal ?_
  refine wp_seq' ?_
  refine wp_seq' ?_
  refine wp_region' ?_
  refine ops_ro' rfl (ro_fieldAddr fa35_8 rfl) rfl ?_
  refine ops_ro' rfl (ro_fieldAddr fa30_0 rfl) rfl ?_
  refine ops_ro' rfl (ro_load sc27 rfl (Rd.pick 2 rfl (Rd.own rfl))) rfl ?_
  refine ops_ro' rfl (ro_and rfl rfl (and32 hf (c := 1) (by decide) rfl)) rfl ?_
  refine ops_ro' rfl (ro_neq rfl rfl rfl) rfl ?_
  refine ops_nil ?_
  refine Then_normal ?_
  refine wp_cond' rfl (fun hc27 => ?_) (fun hc27 => ?_)
  · replace hc27 := of_decide_eq_true hc27
    refine wp_region' ?_
    refine ops_ro' rfl (ro_fieldAddr fa35_8 rfl) rfl ?_
    refine ops_ro' rfl (ro_fieldAddr fa30_1 rfl) rfl ?_
    refine ops_ro' rfl (ro_load sc28 rfl (Rd.pick 2 rfl (Rd.own rfl))) rfl ?_
    refine ops_ro' rfl (ro_rem rfl rfl (by omega) (u64_rem300 _)) rfl ?_
    refine ops_ro' rfl (ro_fieldAddr fa35_8 rfl) rfl ?_
    refine ops_ro' rfl (ro_fieldAddr fa30_1 rfl) rfl ?_
    refine ops_eff0 rfl (eff_store 2 sc28 rfl rfl rfl rfl (Nat.le_of_ble_eq_true rfl) (warm_zero _)) rfl ?_
    rintro _ _ rfl
    refine ops_nil ?_
    refine Then_normal ?_
    refine wp_seq' ?_
    refine wp_region' ?_
    refine ops_ro' rfl (ro_loadA ag35 rfl (RdN.of_pick 2 rfl rdn_all) rfl) rfl ?_
    refine ops_eff0 rfl (eff_storeA 1 ag35 rfl rfl rfl rfl rfl (Nat.le_of_ble_eq_true rfl) (warm_zero _)) rfl ?_
    rintro _ _ rfl
    simp only [List.set_cons_zero, List.set_cons_succ]
    refine ops_nil ?_
    refine Then_normal ?_
    refine wp_ret' ?_
    refine' doneS_ret (resv1 rfl (rv_cellA ag35 rfl (by first | exact RdN.of_pick 0 rfl rdn_all | exact RdN.of_pick 1 rfl rdn_all | exact RdN.of_pick 2 rfl rdn_all | exact RdN.of_pick 3 rfl rdn_all | exact RdN.of_pick 4 rfl rdn_all) rfl)) ?_ ?_
    rotate_left 1
    exact ⟨p17, c17, (by unfold tmQ tmA; first | (rw [if_pos (by omega)]; rfl) | (rw [if_neg (by omega)]; rfl)), hv17, hc17, rfl⟩
    exact (SubH.cons 0 rfl (SubH.nil _))
  · replace hc27 := of_decide_eq_false hc27
    refine wp_skip' ?_
    refine Then_normal ?_
    refine wp_seq' ?_
    refine wp_region' ?_
    refine ops_ro' rfl (ro_loadA ag35 rfl (RdN.of_pick 2 rfl rdn_all) rfl) rfl ?_
    refine ops_eff0 rfl (eff_storeA 1 ag35 rfl rfl rfl rfl rfl (Nat.le_of_ble_eq_true rfl) (warm_zero _)) rfl ?_
    rintro _ _ rfl
    simp only [List.set_cons_zero, List.set_cons_succ]
    refine ops_nil ?_
    refine Then_normal ?_
    refine wp_ret' ?_
    refine' doneS_ret (resv1 rfl (rv_cellA ag35 rfl (by first | exact RdN.of_pick 0 rfl rdn_all | exact RdN.of_pick 1 rfl rdn_all | exact RdN.of_pick 2 rfl rdn_all | exact RdN.of_pick 3 rfl rdn_all | exact RdN.of_pick 4 rfl rdn_all) rfl)) ?_ ?_
    rotate_left 1
    exact ⟨p17, c17, (by unfold tmQ tmA; first | (rw [if_pos (by omega)]; rfl) | (rw [if_neg (by omega)]; rfl)), hv17, hc17, rfl⟩
    exact (SubH.cons 0 rfl (SubH.nil _))


def sm7 : List (List UInt8) := [[97], [98], [97, 47, 98], [97, 47, 99], [47], [98, 47, 46, 46, 47, 97], [99]]
def sm4 : List (List UInt8) := [[104, 48], [104, 49], [104, 50], [120]]
theorem small_spec (V : HProp) (q : Qr) (hf : q.a.f < 4294967296) (hV : Vw V (.slice q.dp q.data.length q.dc) q.data.length (cel q.data)) (hc : q.data.length ≤ q.dc) :
    Tri Tryz.prog 17 [q.v] [V] (fun v H' => ∃ p c q1 x1 x2 x3, q1 = tmQ q p c ∧ sm7[q1.path.length % 7]? = some x1 ∧ sm7[q1.dest.length % 7]? = some x2 ∧ sm4[q1.handle.length % 4]? = some x3 ∧ v = ({ q1 with path := x1, dest := x2, handle := x3 } : Qr).v ∧ Vw V (.slice p (q.data.take 100).length c) (q.data.take 100).length (cel (q.data.take 100)) ∧ (q.data.take 100).length ≤ c ∧ H' = [V]) := by
  refine tri_of_wpS Tryz.func17 rfl Tryz.ntmps17 (by simp) ?_
  refine wp_seq' ?_
  refine wp_region' ?_
  refine ops_eff' rfl (eff_box rfl) rfl ?_
  rintro _ _ ⟨b1, rfl, rfl⟩
  refine ops_eff' rfl (eff_alloc z35) rfl ?_
  rintro _ _ ⟨b2, rfl, rfl⟩
  refine ops_nil ?_
  refine Then_normal ?_
  refine wp_seq' ?_
  refine wp_region' ?_
  refine ops_ro' rfl (ro_loadA ag35 rfl (RdN.of_pick 1 rfl rdn_all) rfl) rfl ?_
  refine ops_eff' rfl (eff_call Tryz.call41 rfl rfl (by repeat (first | exact Split.nil _ | apply Split.cons 0 rfl | apply Split.cons 1 rfl | apply Split.cons 2 rfl | apply Split.cons 3 rfl | apply Split.cons 4 rfl | apply Split.cons 5 rfl | apply Split.cons 6 rfl | apply Split.cons 7 rfl | apply Split.cons 8 rfl | apply Split.cons 9 rfl | apply Split.cons 10 rfl | apply Split.cons 11 rfl)) (tame_spec V q hf hV hc)) rfl ?_
  rintro _ H' ⟨_, ⟨p5, c5, rfl, hv5, hc5, rfl⟩, hH⟩
  simp only [List.cons_append, List.nil_append, List.eraseIdx_cons_zero, List.eraseIdx_cons_succ, List.set_cons_zero, List.set_cons_succ] at hH
  subst hH
  obtain ⟨q1, hq1⟩ : ∃ z, z = tmQ q p5 c5 := ⟨_, rfl⟩
  rw [← hq1]
  have hl1 : q1.path.length ≤ 60 := by rw [hq1]; show (q.path.take 60).length ≤ 60; rw [List.length_take]; omega
  have hl2 : q1.dest.length ≤ 60 := by rw [hq1]; show (q.dest.take 60).length ≤ 60; rw [List.length_take]; omega
  have hl3 : q1.handle.length ≤ 5 := by rw [hq1]; show (q.handle.take 5).length ≤ 5; rw [List.length_take]; omega
  obtain ⟨x1, hg1⟩ : ∃ x, sm7[q1.path.length % 7]? = some x := ⟨_, List.getElem?_eq_getElem (show _ < 7 from Nat.mod_lt _ (by decide))⟩
  obtain ⟨x2, hg2⟩ : ∃ x, sm7[q1.dest.length % 7]? = some x := ⟨_, List.getElem?_eq_getElem (show _ < 7 from Nat.mod_lt _ (by decide))⟩
  obtain ⟨x3, hg3⟩ : ∃ x, sm4[q1.handle.length % 4]? = some x := ⟨_, List.getElem?_eq_getElem (show _ < 4 from Nat.mod_lt _ (by decide))⟩
  have hm1 := Nat.mod_lt q1.path.length (show 0 < 7 by decide)
  have hm2 := Nat.mod_lt q1.dest.length (show 0 < 7 by decide)
  have hm3 := Nat.mod_lt q1.handle.length (show 0 < 4 by decide)
  refine ops_eff0 rfl (eff_storeA 2 ag35 rfl rfl rfl rfl rfl (Nat.le_of_ble_eq_true rfl) (warm_zero _)) rfl ?_
  rintro _ _ rfl
  simp only [List.set_cons_zero, List.set_cons_succ]
  refine ops_nil ?_
  refine Then_normal ?_
  refine wp_cutK 1003 (fun Δ LL => ∃ (b6 : Nat) (qz : Qr), (True) ∧ Δ = [(3, .slice (some ⟨b6, 0, none⟩) 7 7)] ∧ LL = [row 9 1 (.slice (some ⟨b6, 0, none⟩) 7 7) 7 (txs sm7), own b1 (.cells ((q1 : Qr).cs).toArray 35 (0, 0)), own b2 (.cells (qz.cs).toArray 35 (0, 0)), V]) (Has.cons (k := 1) rfl (Has.cons (k := 2) rfl (Has.nil _))) ?_ ?_
  · refine wp_region' ?_
    refine ops_eff' rfl (eff_lit sl47 rfl (sbld (cs := txs sm7) [(.string ByteArray.empty), (.string ByteArray.empty), (.string ByteArray.empty), (.string ByteArray.empty), (.string ByteArray.empty), (.string ByteArray.empty), (.string ByteArray.empty)] sl47 (by decide) (by kernel_rfl) rfl) rfl (by decide)) rfl ?_
    rintro _ _ ⟨b6, rfl, rfl⟩
    refine ops_ro' rfl (ro_assign rfl) rfl ?_
    refine ops_nil ?_
    refine Then_normal ?_
    refine over_cut (kept ⟨b6, ⟨0, [], [], [], 0, 0, none, 0, [], 0, At.zero⟩, trivial, rfl, rfl⟩ ?_ ?_ ?_)
    · exact (by repeat (first | exact Has.nil _ | refine Has.cons rfl ?_))
    · exact (by repeat (first | exact Has.nil _ | refine Has.cons rfl ?_))
    · exact (SubH.cons 0 rfl (SubH.cons 2 rfl (SubH.cons 1 rfl (SubH.cons 0 rfl (SubH.nil _)))))
  · rintro Δ LL ⟨b6, qz, _, rfl, rfl⟩
    simp only [List.cons_append, List.nil_append]
    refine wp_cutK 1004 (fun Δ LL => Δ = [] ∧ LL = [row 9 1 (.slice (some ⟨b6, 0, none⟩) 7 7) 7 (txs sm7), own b1 (.cells (({ q1 with path := x1 } : Qr).cs).toArray 35 (0, 0)), own b2 (.cells (qz.cs).toArray 35 (0, 0)), V]) (Has.cons (k := 1) rfl (Has.cons (k := 2) rfl (Has.cons (k := 3) rfl (Has.nil _)))) ?_ ?_
    · refine wp_region' ?_
      refine ops_ro' rfl (ro_move rfl) rfl ?_
      refine ops_ro' rfl (ro_fieldAddr fa35_1 rfl) rfl ?_
      refine ops_ro' rfl (ro_load sc9 rfl (Rd.pick 1 rfl (Rd.own rfl))) rfl ?_
      refine ops_ro' rfl (ro_lenS (t' := 0) Tryz.underlying9 rfl) rfl ?_
      refine ops_ro' rfl (ro_rem rfl rfl (by omega) (tmodN (b := 7))) rfl ?_
      refine ops_ro' rfl (ro_indexSlice sl47 rfl rfl rfl (by omega)) rfl ?_
      refine ops_ro' rfl (ro_load sc9 rfl (Rd.pick 0 rfl (Rd.elem (j := 0) RdN.row Tx.len hg1 rfl))) rfl ?_
      refine ops_ro' rfl (ro_fieldAddr fa35_1 rfl) rfl ?_
      refine ops_eff0 rfl (eff_store 1 sc9 rfl rfl rfl rfl (Nat.le_of_ble_eq_true rfl) (warm_zero _)) rfl ?_
      rintro _ _ rfl
      simp only [List.set_cons_zero, List.set_cons_succ]
      refine ops_nil ?_
      refine Then_normal ?_
      refine over_cut (kept ⟨rfl, rfl⟩ ?_ ?_ ?_)
      · exact (by repeat (first | exact Has.nil _ | refine Has.cons rfl ?_))
      · exact (by repeat (first | exact Has.nil _ | refine Has.cons rfl ?_))
      · exact SubH.refl _
    · rintro Δ LL ⟨rfl, rfl⟩
      simp only [List.cons_append, List.nil_append]
      refine wp_cutK 1005 (fun Δ LL => Δ = [] ∧ LL = [own b1 (.cells (({ q1 with path := x1, dest := x2 } : Qr).cs).toArray 35 (0, 0)), own b2 (.cells (qz.cs).toArray 35 (0, 0)), V]) (Has.cons (k := 1) rfl (Has.cons (k := 2) rfl (Has.nil _))) ?_ ?_
      · refine wp_region' ?_
        refine ops_ro' rfl (ro_move rfl) rfl ?_
        refine ops_ro' rfl (ro_fieldAddr fa35_2 rfl) rfl ?_
        refine ops_ro' rfl (ro_load sc9 rfl (Rd.pick 1 rfl (Rd.own rfl))) rfl ?_
        refine ops_ro' rfl (ro_lenS (t' := 0) Tryz.underlying9 rfl) rfl ?_
        refine ops_ro' rfl (ro_rem rfl rfl (by omega) (tmodN (b := 7))) rfl ?_
        refine ops_ro' rfl (ro_indexSlice sl47 rfl rfl rfl (by omega)) rfl ?_
        refine ops_ro' rfl (ro_load sc9 rfl (Rd.pick 0 rfl (Rd.elem (j := 0) RdN.row Tx.len hg2 rfl))) rfl ?_
        refine ops_ro' rfl (ro_fieldAddr fa35_2 rfl) rfl ?_
        refine ops_eff0 rfl (eff_store 1 sc9 rfl rfl rfl rfl (Nat.le_of_ble_eq_true rfl) (warm_zero _)) rfl ?_
        rintro _ _ rfl
        simp only [List.set_cons_zero, List.set_cons_succ]
        refine ops_nil ?_
        refine Then_normal ?_
        refine over_cut (kept ⟨rfl, rfl⟩ ?_ ?_ ?_)
        · exact (by repeat (first | exact Has.nil _ | refine Has.cons rfl ?_))
        · exact (by repeat (first | exact Has.nil _ | refine Has.cons rfl ?_))
        · exact (SubH.cons 1 rfl (SubH.cons 1 rfl (SubH.cons 1 rfl (SubH.nil _))))
      · rintro Δ LL ⟨rfl, rfl⟩
        simp only [List.cons_append, List.nil_append]
        refine wp_cutK 1006 (fun Δ LL => Δ = [] ∧ LL = [own b1 (.cells (({ q1 with path := x1, dest := x2, handle := x3 } : Qr).cs).toArray 35 (0, 0)), own b2 (.cells (qz.cs).toArray 35 (0, 0)), V]) (Has.cons (k := 1) rfl (Has.cons (k := 2) rfl (Has.nil _))) ?_ ?_
        · refine wp_region' ?_
          refine ops_eff' rfl (eff_lit sl47 rfl (sbld (cs := txs sm4) [(.string ByteArray.empty), (.string ByteArray.empty), (.string ByteArray.empty), (.string ByteArray.empty)] sl47 (by decide) (by kernel_rfl) rfl) rfl (by decide)) rfl ?_
          rintro _ _ ⟨b23, rfl, rfl⟩
          refine ops_ro' rfl (ro_fieldAddr fa35_3 rfl) rfl ?_
          refine ops_ro' rfl (ro_load sc9 rfl (Rd.pick 1 rfl (Rd.own rfl))) rfl ?_
          refine ops_ro' rfl (ro_lenS (t' := 0) Tryz.underlying9 rfl) rfl ?_
          refine ops_ro' rfl (ro_rem rfl rfl (by omega) (tmodN (b := 4))) rfl ?_
          refine ops_ro' rfl (ro_indexSlice sl47 rfl rfl rfl (by omega)) rfl ?_
          refine ops_ro' rfl (ro_load sc9 rfl (Rd.pick 0 rfl (Rd.elem (j := 0) RdN.row Tx.len hg3 rfl))) rfl ?_
          refine ops_ro' rfl (ro_fieldAddr fa35_3 rfl) rfl ?_
          refine ops_eff0 rfl (eff_store 1 sc9 rfl rfl rfl rfl (Nat.le_of_ble_eq_true rfl) (warm_zero _)) rfl ?_
          rintro _ _ rfl
          simp only [List.set_cons_zero, List.set_cons_succ]
          refine ops_nil ?_
          refine Then_normal ?_
          refine over_cut (kept ⟨rfl, rfl⟩ ?_ ?_ ?_)
          · exact (by repeat (first | exact Has.nil _ | refine Has.cons rfl ?_))
          · exact (by repeat (first | exact Has.nil _ | refine Has.cons rfl ?_))
          · exact (SubH.cons 1 rfl (SubH.cons 1 rfl (SubH.cons 1 rfl (SubH.nil _))))
        · rintro Δ LL ⟨rfl, rfl⟩
          simp only [List.cons_append, List.nil_append]
          refine wp_seq' ?_
          refine wp_region' ?_
          refine ops_ro' rfl (ro_loadA ag35 rfl (RdN.of_pick 0 rfl rdn_all) rfl) rfl ?_
          refine ops_eff0 rfl (eff_storeA 1 ag35 rfl rfl rfl rfl rfl (Nat.le_of_ble_eq_true rfl) (warm_zero _)) rfl ?_
          rintro _ _ rfl
          simp only [List.set_cons_zero, List.set_cons_succ]
          refine ops_nil ?_
          refine Then_normal ?_
          refine wp_ret' ?_
          refine' doneS_ret (resv1 rfl (rv_cellA ag35 rfl (by first | exact RdN.of_pick 0 rfl rdn_all | exact RdN.of_pick 1 rfl rdn_all | exact RdN.of_pick 2 rfl rdn_all | exact RdN.of_pick 3 rfl rdn_all | exact RdN.of_pick 4 rfl rdn_all | exact RdN.of_pick 5 rfl rdn_all) rfl)) ?_ ?_
          rotate_left 1
          exact ⟨p5, c5, q1, x1, x2, x3, hq1, hg1, hg2, hg3, rfl, hv5, hc5, rfl⟩
          exact (SubH.cons 2 rfl (SubH.nil _))

end Go.Proofs.YtlefpllcgcicpaaGreatDoor
