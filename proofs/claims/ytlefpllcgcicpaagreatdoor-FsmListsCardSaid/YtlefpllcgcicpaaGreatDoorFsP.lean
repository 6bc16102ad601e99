/-
  Package fsm: Do.
  Package fsm: New, Open, Drop.
  Law 16: a tree that has one file: what its machine answers.
-/
import Derived.Test.YtlefpllcgcicpaaGreatDoorFsI
import Derived.Test.YtlefpllcgcicpaaGreatDoorTrK
set_option linter.unusedVariables false
set_option linter.unusedSimpArgs false
namespace Go.Proofs.YtlefpllcgcicpaaGreatDoor
open Go.Sx
set_option maxRecDepth 100000
set_option maxHeartbeats 4000000
theorem frenK_spec {V : HProp} {t : Tr} {r : Nd} (hW : Wf t r) (q : Option Addr) (cq : Nat) (fr : List (List UInt8)) (hV1 : Vw V (.slice q fr.length cq) fr.length (txs fr)) (hcq : fr.length ≤ cq) (hlf : fr.length ≤ 100000) (q2 : Option Addr) (cq2 : Nat) (tq : List (List UInt8)) (hV2 : Vw V (.slice q2 tq.length cq2) tq.length (txs tq)) (hcq2 : tq.length ≤ cq2) (hlt : tq.length ≤ 100000) (hln : (lastN tq).length ≤ 9223372036854775807) :
    Tri Tryz.prog 37 [t.v, .slice q fr.length cq, .slice q2 tq.length cq2] [tree t, V] (fun v H' => ∃ K, (∃ t' r' e, v = .int .i64 e ∧ RenR t r fr tq t' r' e ∧ Wf t' r' ∧ t'.tb = t.tb ∧ t'.next = t.next ∧ K = [tree t']) ∧ H' = K ++ [V]) := by
  refine tri_post (rename_spec hW q cq fr hV1 hcq hlf q2 cq2 tq hV2 hcq2 hlt hln) ?_
  rintro v H' ⟨t', r', e, h1, h2, h3, h4, h5, h6⟩
  exact ⟨[tree t'], ⟨t', r', e, h1, h2, h3, h4, h5, rfl⟩, h6⟩
section
variable {t t' : Tr} {r : Nd} {hs hs' : List Hd} {s : Nat} {q : Qr} {k : Rk} {pp : List (List UInt8) × Int}
theorem do_by (h : s < 16) (hb : byH q.kind ∧ byR t r hs s q t' hs' k) : doR t r hs s q t' hs' k := by
  unfold doR
  rw [if_neg (by omega), if_pos hb.1, Int.toNat_natCast]; exact hb.2
theorem do_none (h : s < 16) (hb : ¬ byH q.kind) (h7 : q.kind < 7 ∨ 18 < q.kind) : doR t r hs s q t hs (Rk.stat 8) := by
  unfold doR
  rw [if_neg (by omega), if_neg hb, if_pos h7]; exact ⟨rfl, rfl, rfl⟩
theorem do_right (h : s < 16) (hb : ¬ byH q.kind) (h7 : ¬ (q.kind < 7 ∨ 18 < q.kind)) (h14 : q.kind = 14) (hr : q.a.right = false) : doR t r hs s q t hs (Rk.stat 4) := by
  unfold doR
  rw [if_neg (by omega), if_neg hb, if_neg h7, if_pos ⟨h14, hr⟩]; exact ⟨rfl, rfl, rfl⟩
theorem do_split (h : s < 16) (hb : ¬ byH q.kind) (h7 : ¬ (q.kind < 7 ∨ 18 < q.kind)) (h14 : ¬ (q.kind = 14 ∧ q.a.right = false)) (hpp : pSplit q.path = pp) (hpe : pp.2 ≠ 0) : doR t r hs s q t hs (ofK pp.2) := by
  unfold doR
  rw [if_neg (by omega), if_neg hb, if_neg h7, if_neg h14, hpp, if_pos hpe]; exact ⟨rfl, rfl, rfl⟩
theorem do_path (h : s < 16) (hb : ¬ byH q.kind) (h7 : ¬ (q.kind < 7 ∨ 18 < q.kind)) (h14 : ¬ (q.kind = 14 ∧ q.a.right = false)) (hpp : pSplit q.path = pp) (hpe : pp.2 = 0) (hp : pathR t r q pp.1 t' k) : doR t r hs s q t' hs k := by
  unfold doR
  rw [if_neg (by omega), if_neg hb, if_neg h7, if_neg h14, hpp, if_neg (by omega)]; exact ⟨rfl, hp⟩
end
theorem do16_spec {V : HProp} {mb tb : Nat} {t : Tr} {hs : List Hd} {r : Nd} (hW : Wf t r) (htb : t.tb = tb) (hH : HsOk hs) (s : Int) (q : Qr) (hq : q.Ok) (hP : Ml V) (hnx : t.next ≤ 9223372036854775806) (hD : Vw V (.slice q.dp q.data.length q.dc) q.data.length (cel q.data)) : Tri Tryz.prog 12 [.pointer (some ⟨mb, 0, none⟩), .int .i64 s, q.v] [oMa mb tb hs, tree t, St (hs.map rowN), V]
    (fun v H' => ∃ t' hs' k dp dc np nc, v = (k.rep dp dc np nc).v ∧ doR t r hs s q t' hs' k ∧ (∃ r', Wf t' r') ∧ t'.tb = tb ∧ t'.next ≤ t.next + 1 ∧ HsOk hs' ∧ H' = [rowD dp dc k.data, rowNm np nc k.names, oMa mb tb hs', tree t', St (hs'.map rowN), V]) := by
  by_cases hb : s < 0 ∨ 16 ≤ s
  · skip
    refine zu Tryz.func12 rfl Tryz.ntmps12 (by simp) ?_
    refine zM ?_
    refine zK ?_
    refine zR rfl (qj rfl) rfl ?_
    rintro _ _ ⟨b5, rfl, rfl⟩
    refine zR rfl (qL z32) rfl ?_
    rintro _ _ ⟨b6, rfl, rfl⟩
    refine zO ?_
    refine zI ?_
    refine zM ?_
    refine zM ?_
    refine zK ?_
    refine zG rfl (zL rfl) rfl ?_
    refine zG rfl (yD rfl rfl rfl) rfl ?_
    refine qZ rfl rfl rfl (fun hg19 => ?_) (fun hg19 => ?_)
    · replace hg19 := of_decide_eq_true hg19
      refine zX rfl rfl ?_
      refine zX rfl rfl ?_
      refine zG rfl (zr rfl rfl) rfl ?_
      refine zO ?_
      refine zI ?_
      refine qE rfl ?_
      refine zM ?_
      refine zK ?_
      refine zR rfl (zg Tryz.call28 rfl rfl (by repeat (first | exact zS _ | apply zH 0 rfl | apply zH 1 rfl | apply zH 2 rfl | apply zH 3 rfl | apply zH 4 rfl | apply zH 5 rfl | apply zH 6 rfl | apply zH 7 rfl | apply zH 8 rfl | apply zH 9 rfl | apply zH 10 rfl | apply zH 11 rfl)) (qK 4)) rfl ?_
      rintro _ H' ⟨_, ⟨rfl, rfl⟩, hH⟩
      simp only [List.cons_append, List.nil_append, List.eraseIdx_cons_zero, List.eraseIdx_cons_succ, List.set_cons_zero, List.set_cons_succ] at hH
      subst hH
      first | refine qh (fun w F sw => qR (ql 4) sw) ?_ | refine qq (fun w F sw => qR (ql 4) sw) ?_
      refine zw rfl (zo 2 qM rfl rfl rfl rfl rfl (Nat.le_of_ble_eq_true rfl) (zi _)) rfl ?_
      rintro _ _ rfl
      simp only [List.set_cons_zero, List.set_cons_succ]
      refine zO ?_
      refine zI ?_
      refine zf ?_
      refine zb ?_
      refine' zY (qf rfl (qB qM rfl (RdN.of_pick 2 rfl zz) rfl)) ?_ ?_
      rotate_left 1
      exact ⟨t, hs, Rk.stat 4, none, 0, none, 0, rfl, (by unfold doR; rw [if_pos hb]; exact ⟨rfl, rfl, rfl⟩), ⟨r, hW⟩, htb, by omega, hH, rfl⟩
      exact (zJ 0 rfl (zJ 0 rfl (zJ 2 rfl (zJ 2 rfl (zJ 2 rfl (zJ 2 rfl (zZ _)))))))
    · replace hg19 := of_decide_eq_false hg19
      refine zG rfl (zL rfl) rfl ?_
      refine zG rfl (ro_geq rfl rfl (decide_eq_true (by omega))) rfl ?_
      refine zG rfl (zr rfl rfl) rfl ?_
      refine zO ?_
      refine zI ?_
      refine qE rfl ?_
      refine zM ?_
      refine zK ?_
      refine zR rfl (zg Tryz.call28 rfl rfl (by repeat (first | exact zS _ | apply zH 0 rfl | apply zH 1 rfl | apply zH 2 rfl | apply zH 3 rfl | apply zH 4 rfl | apply zH 5 rfl | apply zH 6 rfl | apply zH 7 rfl | apply zH 8 rfl | apply zH 9 rfl | apply zH 10 rfl | apply zH 11 rfl)) (qK 4)) rfl ?_
      rintro _ H' ⟨_, ⟨rfl, rfl⟩, hH⟩
      simp only [List.cons_append, List.nil_append, List.eraseIdx_cons_zero, List.eraseIdx_cons_succ, List.set_cons_zero, List.set_cons_succ] at hH
      subst hH
      first | refine qh (fun w F sw => qR (ql 4) sw) ?_ | refine qq (fun w F sw => qR (ql 4) sw) ?_
      refine zw rfl (zo 2 qM rfl rfl rfl rfl rfl (Nat.le_of_ble_eq_true rfl) (zi _)) rfl ?_
      rintro _ _ rfl
      simp only [List.set_cons_zero, List.set_cons_succ]
      refine zO ?_
      refine zI ?_
      refine zf ?_
      refine zb ?_
      refine' zY (qf rfl (qB qM rfl (RdN.of_pick 2 rfl zz) rfl)) ?_ ?_
      rotate_left 1
      exact ⟨t, hs, Rk.stat 4, none, 0, none, 0, rfl, (by unfold doR; rw [if_pos hb]; exact ⟨rfl, rfl, rfl⟩), ⟨r, hW⟩, htb, by omega, hH, rfl⟩
      exact (zJ 0 rfl (zJ 0 rfl (zJ 2 rfl (zJ 2 rfl (zJ 2 rfl (zJ 2 rfl (zZ _)))))))
  · obtain ⟨s, rfl⟩ : ∃ s' : Nat, s = (s' : Int) := ⟨s.toNat, by omega⟩
    have hs16 : s < 16 := by omega
    refine zu Tryz.func12 rfl Tryz.ntmps12 (by simp) ?_
    refine zM ?_
    refine zK ?_
    refine zR rfl (qj rfl) rfl ?_
    rintro _ _ ⟨b5, rfl, rfl⟩
    refine zR rfl (qL z32) rfl ?_
    rintro _ _ ⟨b6, rfl, rfl⟩
    refine zO ?_
    refine zI ?_
    refine zM ?_
    refine zM ?_
    refine zK ?_
    refine zG rfl (zL rfl) rfl ?_
    refine zG rfl (yD rfl rfl (decide_eq_false (by omega))) rfl ?_
    refine zG rfl (zL (v := .bool false) rfl) rfl ?_
    refine zG rfl (zL rfl) rfl ?_
    refine zG rfl (ro_geq rfl rfl (decide_eq_false (by omega))) rfl ?_
    refine zG rfl (zr rfl rfl) rfl ?_
    refine zO ?_
    refine zI ?_
    refine qA rfl ?_
    refine zn ?_
    refine zI ?_
    refine zM ?_
    refine yS 1004 (fun Δ LL => ∃ (t1 : Tr) (hs1 : List Hd) (k1 : Rk) (dp1 : Option Addr) (dc1 : Nat) (np1 : Option Addr) (nc1 : Nat) (b1 : Bool) (b7 : Nat), (((b1 = true ∧ byH q.kind ∧ byR t r hs s q t1 hs1 k1) ∨ (b1 = false ∧ ¬ byH q.kind ∧ t1 = t ∧ hs1 = hs)) ∧ (∃ r', Wf t1 r') ∧ t1.tb = tb ∧ t1.next ≤ t.next + 1 ∧ HsOk hs1) ∧ Δ = [(7, .pointer (some ⟨b7, 0, none⟩)), (8, .bool b1)] ∧ LL = [own b6 (.cells ((Rk.rep ⟨0, 0, [], [], [], At.zero⟩ none 0 none 0).cs).toArray 32 (0, 0)), own b5 (.cells (q.cs).toArray 35 (0, 0)), own b7 (.cells ((k1.rep dp1 dc1 np1 nc1).cs).toArray 32 (0, 0)), rowD dp1 dc1 k1.data, rowNm np1 nc1 k1.names, oMa mb tb hs1, tree t1, St (hs1.map rowN), V]) (zT (k := 0) rfl (zT (k := 5) rfl (zT (k := 6) rfl (zh _)))) ?_ ?_
    · refine zK ?_
      refine zG rfl (zL rfl) rfl ?_
      refine zG rfl (zL rfl) rfl ?_
      refine zG rfl (qc ag35 rfl (RdN.of_pick 1 rfl ((show RdN _ b5 0 q.cs from zz))) rfl) rfl ?_
      refine zR rfl (zg Tryz.call29 rfl rfl (by repeat (first | exact zS _ | apply zH 0 rfl | apply zH 1 rfl | apply zH 2 rfl | apply zH 3 rfl | apply zH 4 rfl | apply zH 5 rfl | apply zH 6 rfl | apply zH 7 rfl | apply zH 8 rfl | apply zH 9 rfl | apply zH 10 rfl | apply zH 11 rfl)) (byHandle_spec hW htb hH s hs16 q hq hP hnx hD)) rfl ?_
      rintro _ H' ⟨_, ⟨t1, hs1, k1, dp1, dc1, np1, nc1, b1, rfl, hB, hW1, htb1, hnx1, hH1, rfl⟩, hH⟩
      simp only [List.cons_append, List.nil_append, List.eraseIdx_cons_zero, List.eraseIdx_cons_succ, List.set_cons_zero, List.set_cons_succ] at hH
      subst hH
      refine zG rfl (zL rfl) rfl ?_
      refine zG rfl (zv rfl rfl) rfl ?_
      refine zG rfl (zv rfl rfl) rfl ?_
      refine zR rfl (qL z32) rfl ?_
      rintro _ _ ⟨b7, rfl, rfl⟩
      refine zw rfl (zo 0 qM rfl rfl rfl rfl rfl (Nat.le_of_ble_eq_true rfl) (zi _)) rfl ?_
      rintro _ _ rfl
      simp only [List.set_cons_zero, List.set_cons_succ]
      refine zG rfl (zN rfl) rfl ?_
      refine zO ?_
      refine zI ?_
      refine qg (qo ⟨t1, hs1, k1, dp1, dc1, np1, nc1, b1, b7, ⟨hB, hW1, htb1, hnx1, hH1⟩, rfl, rfl⟩ ?_ ?_ ?_)
      · exact (by repeat (first | exact zh _ | refine zT rfl ?_))
      · exact (by repeat (first | exact zh _ | refine zT rfl ?_))
      · exact (zJ 7 rfl (zJ 7 rfl (zJ 0 rfl (zJ 0 rfl (zJ 0 rfl (zJ 0 rfl (zJ 0 rfl (zJ 0 rfl (zJ 0 rfl (zZ _))))))))))
    · rintro Δ LL ⟨t1, hs1, k1, dp1, dc1, np1, nc1, b1, b7, ⟨hB, hW1, htb1, hnx1, hH1⟩, rfl, rfl⟩
      simp only [List.cons_append, List.nil_append]
      refine zM ?_
      refine zK ?_
      refine zG rfl (zL rfl) rfl ?_
      refine zO ?_
      refine zI ?_
      refine zt rfl (fun hc31 => ?_) (fun hc31 => ?_)
      · skip
        refine zM ?_
        refine zK ?_
        refine zG rfl (qc qM rfl (RdN.of_pick 2 rfl zz) rfl) rfl ?_
        refine zw rfl (zo 0 qM rfl rfl rfl rfl rfl (Nat.le_of_ble_eq_true rfl) (zi _)) rfl ?_
        rintro _ _ rfl
        simp only [List.set_cons_zero, List.set_cons_succ]
        refine zO ?_
        refine zI ?_
        refine zf ?_
        refine zb ?_
        refine' zY (qf rfl (qB qM rfl (RdN.of_pick 0 rfl zz) rfl)) ?_ ?_
        rotate_left 1
        exact ⟨t1, hs1, k1, dp1, dc1, np1, nc1, rfl, do_by hs16 (by rcases hB with h | h; exact h.2; exact absurd (hc31.symm.trans h.1) (by decide)), hW1, htb1, hnx1, hH1, rfl⟩
        exact (zJ 3 rfl (zJ 3 rfl (zJ 3 rfl (zJ 3 rfl (zJ 3 rfl (zJ 3 rfl (zZ _)))))))
      · skip
        obtain ⟨_, hnb, ht, hh⟩ : b1 = false ∧ ¬ byH q.kind ∧ t1 = t ∧ hs1 = hs := by
          rcases hB with h | h
          · exact absurd (hc31.symm.trans h.1) (by decide)
          · exact h
        obtain rfl : t = t1 := ht.symm
        obtain rfl : hs = hs1 := hh.symm
        have hdl := wf_dl2 hW
        refine zn ?_
        refine zI ?_
        refine zM ?_
        refine zM ?_
        refine zK ?_
        refine zG rfl (zP fa35_0 rfl) rfl ?_
        refine zG rfl (zW sc3 rfl (Rd.pick 1 rfl (Rd.own rfl))) rfl ?_
        refine zG rfl (yD rfl rfl rfl) rfl ?_
        refine qZ rfl rfl rfl (fun hg36 => ?_) (fun hg36 => ?_)
        · replace hg36 := of_decide_eq_true hg36
          refine zX rfl rfl ?_
          refine zX rfl rfl ?_
          refine zX rfl rfl ?_
          refine zG rfl (zr rfl rfl) rfl ?_
          refine zO ?_
          refine zI ?_
          refine qE rfl ?_
          refine zM ?_
          refine zK ?_
          refine zR rfl (zg Tryz.call28 rfl rfl (by repeat (first | exact zS _ | apply zH 0 rfl | apply zH 1 rfl | apply zH 2 rfl | apply zH 3 rfl | apply zH 4 rfl | apply zH 5 rfl | apply zH 6 rfl | apply zH 7 rfl | apply zH 8 rfl | apply zH 9 rfl | apply zH 10 rfl | apply zH 11 rfl)) (qK 8)) rfl ?_
          rintro _ H' ⟨_, ⟨rfl, rfl⟩, hH⟩
          simp only [List.cons_append, List.nil_append, List.eraseIdx_cons_zero, List.eraseIdx_cons_succ, List.set_cons_zero, List.set_cons_succ] at hH
          subst hH
          first | refine qh (fun w F sw => qR (ql 8) sw) ?_ | refine qq (fun w F sw => qR (ql 8) sw) ?_
          refine zw rfl (zo 2 qM rfl rfl rfl rfl rfl (Nat.le_of_ble_eq_true rfl) (zi _)) rfl ?_
          rintro _ _ rfl
          simp only [List.set_cons_zero, List.set_cons_succ]
          refine zO ?_
          refine zI ?_
          refine zf ?_
          refine zb ?_
          refine' zY (qf rfl (qB qM rfl (RdN.of_pick 2 rfl zz) rfl)) ?_ ?_
          rotate_left 1
          exact ⟨t, hs, Rk.stat 8, none, 0, none, 0, (by first | rfl | (rw [← yP]; rfl)), (do_none hs16 hnb (by omega)), ⟨r, hW⟩, htb, by omega, hH, rfl⟩
          exact (zJ 0 rfl (zJ 0 rfl (zJ 5 rfl (zJ 5 rfl (zJ 5 rfl (zJ 5 rfl (zZ _)))))))
        · replace hg36 := of_decide_eq_false hg36
          refine zG rfl (zP fa35_0 rfl) rfl ?_
          refine zG rfl (zW sc3 rfl (Rd.pick 1 rfl (Rd.own rfl))) rfl ?_
          refine zG rfl (yW rfl rfl rfl) rfl ?_
          refine zG rfl (zr rfl rfl) rfl ?_
          refine zO ?_
          refine zI ?_
          refine zt rfl (fun hc40 => ?_) (fun hc40 => ?_)
          · replace hc40 := of_decide_eq_true hc40
            refine zM ?_
            refine zK ?_
            refine zR rfl (zg Tryz.call28 rfl rfl (by repeat (first | exact zS _ | apply zH 0 rfl | apply zH 1 rfl | apply zH 2 rfl | apply zH 3 rfl | apply zH 4 rfl | apply zH 5 rfl | apply zH 6 rfl | apply zH 7 rfl | apply zH 8 rfl | apply zH 9 rfl | apply zH 10 rfl | apply zH 11 rfl)) (qK 8)) rfl ?_
            rintro _ H' ⟨_, ⟨rfl, rfl⟩, hH⟩
            simp only [List.cons_append, List.nil_append, List.eraseIdx_cons_zero, List.eraseIdx_cons_succ, List.set_cons_zero, List.set_cons_succ] at hH
            subst hH
            first | refine qh (fun w F sw => qR (ql 8) sw) ?_ | refine qq (fun w F sw => qR (ql 8) sw) ?_
            refine zw rfl (zo 2 qM rfl rfl rfl rfl rfl (Nat.le_of_ble_eq_true rfl) (zi _)) rfl ?_
            rintro _ _ rfl
            simp only [List.set_cons_zero, List.set_cons_succ]
            refine zO ?_
            refine zI ?_
            refine zf ?_
            refine zb ?_
            refine' zY (qf rfl (qB qM rfl (RdN.of_pick 2 rfl zz) rfl)) ?_ ?_
            rotate_left 1
            exact ⟨t, hs, Rk.stat 8, none, 0, none, 0, (by first | rfl | (rw [← yP]; rfl)), (do_none hs16 hnb (by omega)), ⟨r, hW⟩, htb, by omega, hH, rfl⟩
            exact (zJ 0 rfl (zJ 0 rfl (zJ 5 rfl (zJ 5 rfl (zJ 5 rfl (zJ 5 rfl (zZ _)))))))
          · replace hc40 := of_decide_eq_false hc40
            have h7 : ¬ (q.kind < 7 ∨ 18 < q.kind) := by omega
            refine zn ?_
            refine zI ?_
            refine zM ?_
            refine zM ?_
            refine zK ?_
            refine zG rfl (zP fa35_0 rfl) rfl ?_
            refine zG rfl (zW sc3 rfl (Rd.pick 1 rfl (Rd.own rfl))) rfl ?_
            refine zG rfl (qH rfl rfl rfl) rfl ?_
            refine qZ rfl rfl rfl (fun hg45 => ?_) (fun hg45 => ?_)
            · replace hg45 := of_decide_eq_true hg45
              refine zG rfl (zP fa35_8 rfl) rfl ?_
              refine zG rfl (qc ag30 rfl (RdN.of_pick 1 rfl (rdn_sub 7)) rfl) rfl ?_
              refine zR rfl (zg Tryz.call30 rfl rfl (by repeat (first | exact zS _ | apply zH 0 rfl | apply zH 1 rfl | apply zH 2 rfl | apply zH 3 rfl | apply zH 4 rfl | apply zH 5 rfl | apply zH 6 rfl | apply zH 7 rfl | apply zH 8 rfl | apply zH 9 rfl | apply zH 10 rfl | apply zH 11 rfl)) (right_spec q.a hq.a)) rfl ?_
              rintro _ H' ⟨_, ⟨rfl, rfl⟩, hH⟩
              simp only [List.cons_append, List.nil_append, List.eraseIdx_cons_zero, List.eraseIdx_cons_succ, List.set_cons_zero, List.set_cons_succ] at hH
              subst hH
              refine zG rfl (yL rfl rfl) rfl ?_
              refine zG rfl (zr rfl rfl) rfl ?_
              refine zO ?_
              refine zI ?_
              refine zt rfl (fun hc50 => ?_) (fun hc50 => ?_)
              · simp only [Bool.and_eq_true, decide_eq_true_eq, Bool.not_eq_true', decide_eq_false_iff_not, bne_iff_ne, ne_eq] at hc50
                refine zM ?_
                refine zK ?_
                refine zR rfl (zg Tryz.call28 rfl rfl (by repeat (first | exact zS _ | apply zH 0 rfl | apply zH 1 rfl | apply zH 2 rfl | apply zH 3 rfl | apply zH 4 rfl | apply zH 5 rfl | apply zH 6 rfl | apply zH 7 rfl | apply zH 8 rfl | apply zH 9 rfl | apply zH 10 rfl | apply zH 11 rfl)) (qK 4)) rfl ?_
                rintro _ H' ⟨_, ⟨rfl, rfl⟩, hH⟩
                simp only [List.cons_append, List.nil_append, List.eraseIdx_cons_zero, List.eraseIdx_cons_succ, List.set_cons_zero, List.set_cons_succ] at hH
                subst hH
                first | refine qh (fun w F sw => qR (ql 4) sw) ?_ | refine qq (fun w F sw => qR (ql 4) sw) ?_
                refine zw rfl (zo 2 qM rfl rfl rfl rfl rfl (Nat.le_of_ble_eq_true rfl) (zi _)) rfl ?_
                rintro _ _ rfl
                simp only [List.set_cons_zero, List.set_cons_succ]
                refine zO ?_
                refine zI ?_
                refine zf ?_
                refine zb ?_
                refine' zY (qf rfl (qB qM rfl (RdN.of_pick 2 rfl zz) rfl)) ?_ ?_
                rotate_left 1
                exact ⟨t, hs, Rk.stat 4, none, 0, none, 0, (by first | rfl | (rw [← yP]; rfl)), (do_right hs16 hnb h7 (by omega) (by simp_all)), ⟨r, hW⟩, htb, by omega, hH, rfl⟩
                exact (zJ 0 rfl (zJ 0 rfl (zJ 5 rfl (zJ 5 rfl (zJ 5 rfl (zJ 5 rfl (zZ _)))))))
              · simp only [Bool.and_eq_false_iff, decide_eq_false_iff_not, Bool.not_eq_false', decide_eq_true_eq] at hc50
                refine zn ?_
                refine zI ?_
                refine zM ?_
                have hr14 : ¬ (q.kind = 14 ∧ q.a.right = false) := by rintro ⟨a1, a2⟩; first | omega | simp_all
                refine zK ?_
                refine zG rfl (zP fa35_1 rfl) rfl ?_
                refine zG rfl (zW sc9 rfl (Rd.pick 1 rfl (Rd.own rfl))) rfl ?_
                refine zR rfl (zg Tryz.call31 rfl rfl (by repeat (first | exact zS _ | apply zH 0 rfl | apply zH 1 rfl | apply zH 2 rfl | apply zH 3 rfl | apply zH 4 rfl | apply zH 5 rfl | apply zH 6 rfl | apply zH 7 rfl | apply zH 8 rfl | apply zH 9 rfl | apply zH 10 rfl | apply zH 11 rfl)) (xC V hP q.path hq.path)) rfl ?_
                rintro _ H' ⟨_, ⟨_, ⟨p55, c55, rfl, rfl⟩, rfl⟩, hH⟩
                simp only [List.cons_append, List.nil_append, List.eraseIdx_cons_zero, List.eraseIdx_cons_succ, List.set_cons_zero, List.set_cons_succ] at hH
                subst hH
                have hfew := pSplit_few q.path
                have hlast := pSplit_last q.path
                have hall := pSplit_right q.path
                obtain ⟨pp, hpp⟩ : ∃ z, pSplit q.path = z := ⟨_, rfl⟩
                rw [hpp] at hfew hlast hall ⊢
                refine zG rfl (zL rfl) rfl ?_
                refine zG rfl (zv rfl rfl) rfl ?_
                refine zG rfl (zv rfl rfl) rfl ?_
                refine zG rfl (zN rfl) rfl ?_
                refine zG rfl (zN rfl) rfl ?_
                refine zO ?_
                refine zI ?_
                refine zM ?_
                refine zM ?_
                refine zK ?_
                refine zG rfl (zL rfl) rfl ?_
                refine zG rfl (qb rfl rfl rfl) rfl ?_
                refine zO ?_
                refine zI ?_
                refine zt rfl (fun hc59 => ?_) (fun hc59 => ?_)
                · replace hc59 := of_decide_eq_true hc59
                  refine zM ?_
                  refine zK ?_
                  refine zG rfl (zL rfl) rfl ?_
                  refine zR rfl (zg Tryz.call32 rfl rfl (by repeat (first | exact zS _ | apply zH 0 rfl | apply zH 1 rfl | apply zH 2 rfl | apply zH 3 rfl | apply zH 4 rfl | apply zH 5 rfl | apply zH 6 rfl | apply zH 7 rfl | apply zH 8 rfl | apply zH 9 rfl | apply zH 10 rfl | apply zH 11 rfl)) (yb pp.2)) rfl ?_
                  rintro _ H' ⟨_, ⟨rfl, rfl⟩, hH⟩
                  simp only [List.cons_append, List.nil_append, List.eraseIdx_cons_zero, List.eraseIdx_cons_succ, List.set_cons_zero, List.set_cons_succ] at hH
                  subst hH
                  first | refine qh (fun w F sw => qR (yi pp.2) sw) ?_ | refine qq (fun w F sw => qR (yi pp.2) sw) ?_
                  refine zw rfl (zo 4 qM rfl rfl rfl rfl rfl (Nat.le_of_ble_eq_true rfl) (zi _)) rfl ?_
                  rintro _ _ rfl
                  simp only [List.set_cons_zero, List.set_cons_succ]
                  refine zO ?_
                  refine zI ?_
                  refine zf ?_
                  refine zb ?_
                  refine' zY (qf rfl (qB qM rfl (RdN.of_pick 4 rfl zz) rfl)) ?_ ?_
                  rotate_left 1
                  exact ⟨t, hs, ofK pp.2, none, 0, none, 0, (by first | rfl | (rw [← yP]; rfl)), (do_split hs16 hnb h7 hr14 hpp (by omega)), ⟨r, hW⟩, htb, by omega, hH, rfl⟩
                  exact (zJ 0 rfl (zJ 0 rfl (zJ 7 rfl (zJ 7 rfl (zJ 7 rfl (zJ 1 rfl (zZ _)))))))
                · replace hc59 := of_decide_eq_false hc59
                  refine zn ?_
                  refine zI ?_
                  refine zM ?_
                  refine zM ?_
                  have hpe : pp.2 = 0 := by omega
                  refine yJ (fun w F s => row_caps 0 rfl s) ?_
                  intro hpc
                  refine q8 (L := [row 9 1 (.slice p55 pp.1.length c55) pp.1.length (txs pp.1), own b6 (.cells ((Rk.rep ⟨0, 0, [], [], [], At.zero⟩ none 0 none 0).cs).toArray 32 (0, 0)), own b5 (.cells (q.cs).toArray 35 (0, 0)), oMa mb tb hs, tree t, St (hs.map rowN), V]) (by repeat (first | exact zZ _ | refine zJ 0 rfl ?_ | refine zJ 1 rfl ?_ | refine zJ 2 rfl ?_ | refine zJ 3 rfl ?_ | refine zJ 4 rfl ?_ | refine zJ 5 rfl ?_ | refine zJ 6 rfl ?_ | refine zJ 7 rfl ?_ | refine zJ 8 rfl ?_ | refine zJ 9 rfl ?_ | refine zJ 10 rfl ?_ | refine zJ 11 rfl ?_ | refine zJ 12 rfl ?_ | refine zJ 13 rfl ?_ | refine SubH.rown ?_)) ?_
                  refine zK ?_
                  refine zG rfl (zP fa35_0 rfl) rfl ?_
                  refine zG rfl (zW sc3 rfl (Rd.pick 2 rfl (Rd.own rfl))) rfl ?_
                  refine zO ?_
                  refine zI ?_
                  refine zx ?_
                  refine zM ?_
                  refine zK ?_
                  refine zG rfl (qH rfl rfl (decide_eq_false (by omega))) rfl ?_
                  refine zG rfl (zN rfl) rfl ?_
                  refine zO ?_
                  refine zI ?_
                  refine qA rfl ?_
                  refine zM ?_
                  refine zK ?_
                  refine zG rfl (qH rfl rfl (decide_eq_false (by omega))) rfl ?_
                  refine zG rfl (zN rfl) rfl ?_
                  refine zO ?_
                  refine zI ?_
                  refine qA rfl ?_
                  refine zM ?_
                  refine zK ?_
                  refine zG rfl (qH rfl rfl (decide_eq_true (by omega))) rfl ?_
                  refine zG rfl (zN rfl) rfl ?_
                  refine zO ?_
                  refine zI ?_
                  refine qE rfl ?_
                  refine zM ?_
                  refine zK ?_
                  refine zG rfl (zL rfl) rfl ?_
                  refine zG rfl (zU rfl) rfl ?_
                  refine zG rfl (zP yO rfl) rfl ?_
                  refine zG rfl (zW sc51 rfl (Rd.pick 3 rfl (Rd.own rfl))) rfl ?_
                  refine zG rfl (zL rfl) rfl ?_
                  refine zR rfl (zg Tryz.call34 rfl rfl (by repeat (first | exact zS _ | apply zH 0 rfl | apply zH 1 rfl | apply zH 2 rfl | apply zH 3 rfl | apply zH 4 rfl | apply zH 5 rfl | apply zH 6 rfl | apply zH 7 rfl | apply zH 8 rfl | apply zH 9 rfl | apply zH 10 rfl | apply zH 11 rfl)) (qi htb (make_spec (V := row 9 1 (.slice p55 pp.1.length c55) pp.1.length (txs pp.1)) hW hnx _ _ pp.1 Vw.row hpc hfew (by omega) true))) rfl ?_
                  rintro _ H' ⟨_, ⟨t2, r2, i2, e2, rfl, hR2, hW2, rfl⟩, hH⟩
                  simp only [List.cons_append, List.nil_append, List.eraseIdx_cons_zero, List.eraseIdx_cons_succ, List.set_cons_zero, List.set_cons_succ] at hH
                  subst hH
                  obtain ⟨hnx2, htb2⟩ := make_nx hR2
                  have htb2 : t2.tb = tb := by rw [htb2, htb]
                  refine zG rfl (zL rfl) rfl ?_
                  refine zG rfl (zv rfl rfl) rfl ?_
                  refine zG rfl (zv rfl rfl) rfl ?_
                  refine zG rfl (zN rfl) rfl ?_
                  refine zG rfl (zN rfl) rfl ?_
                  refine zO ?_
                  refine zI ?_
                  refine yS 1022 (fun Δ LL => ∃ (t3 : Tr), ((∃ r3, Wf t3 r3) ∧ t3.tb = tb ∧ t3.next ≤ t.next + 1 ∧ (if e2 = 0 then ∃ e3, SetR t2 i2 (bareA q.a) t3 e3 else t3 = t2)) ∧ Δ = [] ∧ LL = [own b6 (.cells ((Rk.rep ⟨0, 0, [], [], [], At.zero⟩ none 0 none 0).cs).toArray 32 (0, 0)), own b5 (.cells (q.cs).toArray 35 (0, 0)), oMa mb tb hs, tree t3, St (hs.map rowN), V]) (zT (k := 6) rfl (zT (k := 12) rfl (zh _))) ?_ ?_
                  · refine zM ?_
                    refine zK ?_
                    refine zG rfl (zL rfl) rfl ?_
                    refine zG rfl (qH rfl rfl rfl) rfl ?_
                    refine zO ?_
                    refine zI ?_
                    refine zt rfl (fun hc94 => ?_) (fun hc94 => ?_)
                    · replace hc94 := of_decide_eq_true hc94
                      refine q8 (L := [own b6 (.cells ((Rk.rep ⟨0, 0, [], [], [], At.zero⟩ none 0 none 0).cs).toArray 32 (0, 0)), own b5 (.cells (q.cs).toArray 35 (0, 0)), oMa mb tb hs, tree t2, St (hs.map rowN), V]) (by repeat (first | exact zZ _ | refine zJ 0 rfl ?_ | refine zJ 1 rfl ?_ | refine zJ 2 rfl ?_ | refine zJ 3 rfl ?_ | refine zJ 4 rfl ?_ | refine zJ 5 rfl ?_ | refine zJ 6 rfl ?_ | refine zJ 7 rfl ?_ | refine zJ 8 rfl ?_ | refine zJ 9 rfl ?_ | refine zJ 10 rfl ?_ | refine zJ 11 rfl ?_ | refine zJ 12 rfl ?_ | refine zJ 13 rfl ?_ | refine SubH.rown ?_)) ?_
                      refine qX 9 (by kernel_rfl) (zH 1 rfl (zH 1 rfl (zS _))) ?_
                      refine zQ (i := 0) (by kernel_rfl) rfl rfl (zL rfl) rfl (fun _ _ _ h => h) ?_
                      refine zQ (i := 1) (by kernel_rfl) rfl rfl (zU rfl) rfl (fun _ _ _ h => h) ?_
                      refine zQ (i := 2) (by kernel_rfl) rfl rfl (zP yO rfl) rfl (fun _ _ _ h => h) ?_
                      refine zQ (i := 3) (by kernel_rfl) rfl rfl (zW sc51 rfl (Rd.pick 1 rfl (Rd.own rfl))) rfl (fun _ _ _ h => h) ?_
                      refine zQ (i := 4) (by kernel_rfl) rfl rfl (zL rfl) rfl (fun _ _ _ h => h) ?_
                      refine zQ (i := 5) (by kernel_rfl) rfl rfl (zP fa35_8 rfl) rfl (fun _ _ _ h => h) ?_
                      refine zQ (i := 6) (by kernel_rfl) rfl rfl (qc ag30 rfl (RdN.of_pick 0 rfl (rdn_sub 7)) rfl) rfl (fun _ _ _ h => h) ?_
                      refine qW (i := 7) (by kernel_rfl) rfl rfl (zg Tryz.call36 rfl rfl (by repeat (first | exact zS _ | apply zH 0 rfl | apply zH 1 rfl | apply zH 2 rfl | apply zH 3 rfl | apply zH 4 rfl | apply zH 5 rfl | apply zH 6 rfl | apply zH 7 rfl | apply zH 8 rfl | apply zH 9 rfl | apply zH 10 rfl | apply zH 11 rfl)) (fbare_spec q.a hq.a)) rfl ?_
                      rintro _ H' ⟨_, ⟨rfl, rfl⟩, hH⟩
                      simp only [List.cons_append, List.nil_append, List.eraseIdx_cons_zero, List.eraseIdx_cons_succ, List.set_cons_zero, List.set_cons_succ] at hH
                      subst hH
                      refine qW (i := 8) (by kernel_rfl) rfl rfl (zg Tryz.call35 rfl rfl (by repeat (first | exact zS _ | apply zH 0 rfl | apply zH 1 rfl | apply zH 2 rfl | apply zH 3 rfl | apply zH 4 rfl | apply zH 5 rfl | apply zH 6 rfl | apply zH 7 rfl | apply zH 8 rfl | apply zH 9 rfl | apply zH 10 rfl | apply zH 11 rfl)) (qi htb2 (set_spec hW2 i2 (bareA q.a) (bare_ok hq.a)))) rfl ?_
                      rintro _ H' ⟨_, ⟨t3, e3, rfl, hR3, rfl⟩, hH⟩
                      simp only [List.cons_append, List.nil_append, List.eraseIdx_cons_zero, List.eraseIdx_cons_succ, List.set_cons_zero, List.set_cons_succ] at hH
                      subst hH
                      obtain ⟨hW3, hnx3, htb3, _⟩ := set_wf hW2 (bare_ok hq.a) hR3
                      have htb3 : t3.tb = tb := by rw [htb3, htb2]
                      refine yZ (by kernel_rfl) ?_
                      refine zI ?_
                      refine qg (qo ⟨t3, ⟨hW3, htb3, by omega, by rw [if_pos (by omega)]; exact ⟨e3, hR3⟩⟩, rfl, rfl⟩ ?_ ?_ ?_)
                      · exact (by repeat (first | exact zh _ | refine zT rfl ?_))
                      · exact (by repeat (first | exact zh _ | refine zT rfl ?_))
                      · exact (zJ 3 rfl (zJ 0 rfl (zJ 0 rfl (zJ 0 rfl (zJ 0 rfl (zJ 0 rfl (zZ _)))))))
                    · replace hc94 := of_decide_eq_false hc94
                      refine zn ?_
                      refine zI ?_
                      refine qg (qo ⟨t2, ⟨⟨r2, hW2⟩, htb2, by omega, by rw [if_neg (by omega)]⟩, rfl, rfl⟩ ?_ ?_ ?_)
                      · exact (by repeat (first | exact zh _ | refine zT rfl ?_))
                      · exact (by repeat (first | exact zh _ | refine zT rfl ?_))
                      · exact (zJ 2 rfl (zJ 2 rfl (zJ 2 rfl (zJ 0 rfl (zJ 1 rfl (zJ 1 rfl (zZ _)))))))
                  · rintro Δ LL ⟨t3, ⟨hW3, htb3, hnx3, hO3⟩, rfl, rfl⟩
                    simp only [List.cons_append, List.nil_append]
                    refine zM ?_
                    refine zK ?_
                    refine zG rfl (zL rfl) rfl ?_
                    refine zR rfl (zg Tryz.call32 rfl rfl (by repeat (first | exact zS _ | apply zH 0 rfl | apply zH 1 rfl | apply zH 2 rfl | apply zH 3 rfl | apply zH 4 rfl | apply zH 5 rfl | apply zH 6 rfl | apply zH 7 rfl | apply zH 8 rfl | apply zH 9 rfl | apply zH 10 rfl | apply zH 11 rfl)) (yb e2)) rfl ?_
                    rintro _ H' ⟨_, ⟨rfl, rfl⟩, hH⟩
                    simp only [List.cons_append, List.nil_append, List.eraseIdx_cons_zero, List.eraseIdx_cons_succ, List.set_cons_zero, List.set_cons_succ] at hH
                    subst hH
                    first | refine qh (fun w F sw => qR (yi e2) sw) ?_ | refine qq (fun w F sw => qR (yi e2) sw) ?_
                    refine zw rfl (zo 2 qM rfl rfl rfl rfl rfl (Nat.le_of_ble_eq_true rfl) (zi _)) rfl ?_
                    rintro _ _ rfl
                    simp only [List.set_cons_zero, List.set_cons_succ]
                    refine zO ?_
                    refine zI ?_
                    refine zf ?_
                    refine zj ?_
                    refine zb ?_
                    refine' zY (qf rfl (qB qM rfl (RdN.of_pick 2 rfl zz) rfl)) ?_ ?_
                    rotate_left 1
                    exact ⟨t3, hs, ofK e2, none, 0, none, 0, (by first | rfl | (rw [← yP]; rfl)), (do_path hs16 hnb h7 hr14 hpp hpe (by unfold pathR; rw [if_neg (by omega), if_neg (by omega), if_pos (by omega)]; exact ⟨t2, r2, i2, e2, hR2, rfl, hO3⟩)), hW3, htb3, hnx3, hH, rfl⟩
                    exact (zJ 0 rfl (zJ 0 rfl (zJ 2 rfl (zJ 2 rfl (zJ 2 rfl (zJ 2 rfl (zZ _)))))))
            · replace hg45 := of_decide_eq_false hg45
              refine zX rfl rfl ?_
              refine zX rfl rfl ?_
              refine zX rfl rfl ?_
              refine zX rfl rfl ?_
              refine zG rfl (zr rfl rfl) rfl ?_
              refine zO ?_
              refine zI ?_
              refine qA rfl ?_
              refine zn ?_
              refine zI ?_
              refine zM ?_
              have hr14 : ¬ (q.kind = 14 ∧ q.a.right = false) := by rintro ⟨a1, a2⟩; first | omega | simp_all
              refine zK ?_
              refine zG rfl (zP fa35_1 rfl) rfl ?_
              refine zG rfl (zW sc9 rfl (Rd.pick 1 rfl (Rd.own rfl))) rfl ?_
              refine zR rfl (zg Tryz.call31 rfl rfl (by repeat (first | exact zS _ | apply zH 0 rfl | apply zH 1 rfl | apply zH 2 rfl | apply zH 3 rfl | apply zH 4 rfl | apply zH 5 rfl | apply zH 6 rfl | apply zH 7 rfl | apply zH 8 rfl | apply zH 9 rfl | apply zH 10 rfl | apply zH 11 rfl)) (xC V hP q.path hq.path)) rfl ?_
              rintro _ H' ⟨_, ⟨_, ⟨p55, c55, rfl, rfl⟩, rfl⟩, hH⟩
              simp only [List.cons_append, List.nil_append, List.eraseIdx_cons_zero, List.eraseIdx_cons_succ, List.set_cons_zero, List.set_cons_succ] at hH
              subst hH
              have hfew := pSplit_few q.path
              have hlast := pSplit_last q.path
              have hall := pSplit_right q.path
              obtain ⟨pp, hpp⟩ : ∃ z, pSplit q.path = z := ⟨_, rfl⟩
              rw [hpp] at hfew hlast hall ⊢
              refine zG rfl (zL rfl) rfl ?_
              refine zG rfl (zv rfl rfl) rfl ?_
              refine zG rfl (zv rfl rfl) rfl ?_
              refine zG rfl (zN rfl) rfl ?_
              refine zG rfl (zN rfl) rfl ?_
              refine zO ?_
              refine zI ?_
              refine zM ?_
              refine zM ?_
              refine zK ?_
              refine zG rfl (zL rfl) rfl ?_
              refine zG rfl (qb rfl rfl rfl) rfl ?_
              refine zO ?_
              refine zI ?_
              refine zt rfl (fun hc59 => ?_) (fun hc59 => ?_)
              · replace hc59 := of_decide_eq_true hc59
                refine zM ?_
                refine zK ?_
                refine zG rfl (zL rfl) rfl ?_
                refine zR rfl (zg Tryz.call32 rfl rfl (by repeat (first | exact zS _ | apply zH 0 rfl | apply zH 1 rfl | apply zH 2 rfl | apply zH 3 rfl | apply zH 4 rfl | apply zH 5 rfl | apply zH 6 rfl | apply zH 7 rfl | apply zH 8 rfl | apply zH 9 rfl | apply zH 10 rfl | apply zH 11 rfl)) (yb pp.2)) rfl ?_
                rintro _ H' ⟨_, ⟨rfl, rfl⟩, hH⟩
                simp only [List.cons_append, List.nil_append, List.eraseIdx_cons_zero, List.eraseIdx_cons_succ, List.set_cons_zero, List.set_cons_succ] at hH
                subst hH
                first | refine qh (fun w F sw => qR (yi pp.2) sw) ?_ | refine qq (fun w F sw => qR (yi pp.2) sw) ?_
                refine zw rfl (zo 4 qM rfl rfl rfl rfl rfl (Nat.le_of_ble_eq_true rfl) (zi _)) rfl ?_
                rintro _ _ rfl
                simp only [List.set_cons_zero, List.set_cons_succ]
                refine zO ?_
                refine zI ?_
                refine zf ?_
                refine zb ?_
                refine' zY (qf rfl (qB qM rfl (RdN.of_pick 4 rfl zz) rfl)) ?_ ?_
                rotate_left 1
                exact ⟨t, hs, ofK pp.2, none, 0, none, 0, (by first | rfl | (rw [← yP]; rfl)), (do_split hs16 hnb h7 hr14 hpp (by omega)), ⟨r, hW⟩, htb, by omega, hH, rfl⟩
                exact (zJ 0 rfl (zJ 0 rfl (zJ 7 rfl (zJ 7 rfl (zJ 7 rfl (zJ 1 rfl (zZ _)))))))
              · replace hc59 := of_decide_eq_false hc59
                refine zn ?_
                refine zI ?_
                refine zM ?_
                refine zM ?_
                have hpe : pp.2 = 0 := by omega
                refine yJ (fun w F s => row_caps 0 rfl s) ?_
                intro hpc
                refine q8 (L := [row 9 1 (.slice p55 pp.1.length c55) pp.1.length (txs pp.1), own b6 (.cells ((Rk.rep ⟨0, 0, [], [], [], At.zero⟩ none 0 none 0).cs).toArray 32 (0, 0)), own b5 (.cells (q.cs).toArray 35 (0, 0)), oMa mb tb hs, tree t, St (hs.map rowN), V]) (by repeat (first | exact zZ _ | refine zJ 0 rfl ?_ | refine zJ 1 rfl ?_ | refine zJ 2 rfl ?_ | refine zJ 3 rfl ?_ | refine zJ 4 rfl ?_ | refine zJ 5 rfl ?_ | refine zJ 6 rfl ?_ | refine zJ 7 rfl ?_ | refine zJ 8 rfl ?_ | refine zJ 9 rfl ?_ | refine zJ 10 rfl ?_ | refine zJ 11 rfl ?_ | refine zJ 12 rfl ?_ | refine zJ 13 rfl ?_ | refine SubH.rown ?_)) ?_
                refine zK ?_
                refine zG rfl (zP fa35_0 rfl) rfl ?_
                refine zG rfl (zW sc3 rfl (Rd.pick 2 rfl (Rd.own rfl))) rfl ?_
                refine zO ?_
                refine zI ?_
                refine zx ?_
                refine zM ?_
                refine zK ?_
                refine zG rfl (qH rfl rfl rfl) rfl ?_
                refine zG rfl (zN rfl) rfl ?_
                refine zO ?_
                refine zI ?_
                refine zt rfl (fun hc64 => ?_) (fun hc64 => ?_)
                · replace hc64 := of_decide_eq_true hc64
                  refine zM ?_
                  refine zK ?_
                  refine zG rfl (zL rfl) rfl ?_
                  refine zG rfl (zU rfl) rfl ?_
                  refine zG rfl (zP yO rfl) rfl ?_
                  refine zG rfl (zW sc51 rfl (Rd.pick 3 rfl (Rd.own rfl))) rfl ?_
                  refine zG rfl (zL rfl) rfl ?_
                  refine zR rfl (zg Tryz.call33 rfl rfl (by repeat (first | exact zS _ | apply zH 0 rfl | apply zH 1 rfl | apply zH 2 rfl | apply zH 3 rfl | apply zH 4 rfl | apply zH 5 rfl | apply zH 6 rfl | apply zH 7 rfl | apply zH 8 rfl | apply zH 9 rfl | apply zH 10 rfl | apply zH 11 rfl)) (qi htb (remove_spec (V := row 9 1 (.slice p55 pp.1.length c55) pp.1.length (txs pp.1)) hW _ _ pp.1 Vw.row hpc hfew false))) rfl ?_
                  rintro _ H' ⟨_, ⟨t2, r2, e2, rfl, hR2, hW2, htb2, hnx2, rfl⟩, hH⟩
                  simp only [List.cons_append, List.nil_append, List.eraseIdx_cons_zero, List.eraseIdx_cons_succ, List.set_cons_zero, List.set_cons_succ] at hH
                  subst hH
                  refine zR rfl (zg Tryz.call32 rfl rfl (by repeat (first | exact zS _ | apply zH 0 rfl | apply zH 1 rfl | apply zH 2 rfl | apply zH 3 rfl | apply zH 4 rfl | apply zH 5 rfl | apply zH 6 rfl | apply zH 7 rfl | apply zH 8 rfl | apply zH 9 rfl | apply zH 10 rfl | apply zH 11 rfl)) (yb e2)) rfl ?_
                  rintro _ H' ⟨_, ⟨rfl, rfl⟩, hH⟩
                  simp only [List.cons_append, List.nil_append, List.eraseIdx_cons_zero, List.eraseIdx_cons_succ, List.set_cons_zero, List.set_cons_succ] at hH
                  subst hH
                  first | refine qh (fun w F sw => qR (yi e2) sw) ?_ | refine qq (fun w F sw => qR (yi e2) sw) ?_
                  refine zw rfl (zo 4 qM rfl rfl rfl rfl rfl (Nat.le_of_ble_eq_true rfl) (zi _)) rfl ?_
                  rintro _ _ rfl
                  simp only [List.set_cons_zero, List.set_cons_succ]
                  refine zO ?_
                  refine zI ?_
                  refine zf ?_
                  refine zj ?_
                  refine zb ?_
                  refine' zY (qf rfl (qB qM rfl (RdN.of_pick 4 rfl zz) rfl)) ?_ ?_
                  rotate_left 1
                  exact ⟨t2, hs, ofK e2, none, 0, none, 0, (by first | rfl | (rw [← yP]; rfl)), (do_path hs16 hnb h7 hr14 hpp hpe (by unfold pathR; rw [if_pos (by omega)]; exact ⟨r2, e2, hR2, rfl⟩)), ⟨r2, hW2⟩, htb2.trans htb, by omega, hH, rfl⟩
                  exact (zJ 0 rfl (zJ 0 rfl (zJ 4 rfl (zJ 0 rfl (zJ 3 rfl (zJ 3 rfl (zZ _)))))))
                · replace hc64 := of_decide_eq_false hc64
                  refine zM ?_
                  refine zK ?_
                  refine zG rfl (qH rfl rfl rfl) rfl ?_
                  refine zG rfl (zN rfl) rfl ?_
                  refine zO ?_
                  refine zI ?_
                  refine zt rfl (fun hc73 => ?_) (fun hc73 => ?_)
                  · replace hc73 := of_decide_eq_true hc73
                    refine zM ?_
                    refine zK ?_
                    refine zG rfl (zL rfl) rfl ?_
                    refine zG rfl (zU rfl) rfl ?_
                    refine zG rfl (zP yO rfl) rfl ?_
                    refine zG rfl (zW sc51 rfl (Rd.pick 3 rfl (Rd.own rfl))) rfl ?_
                    refine zG rfl (zL rfl) rfl ?_
                    refine zR rfl (zg Tryz.call33 rfl rfl (by repeat (first | exact zS _ | apply zH 0 rfl | apply zH 1 rfl | apply zH 2 rfl | apply zH 3 rfl | apply zH 4 rfl | apply zH 5 rfl | apply zH 6 rfl | apply zH 7 rfl | apply zH 8 rfl | apply zH 9 rfl | apply zH 10 rfl | apply zH 11 rfl)) (qi htb (remove_spec (V := row 9 1 (.slice p55 pp.1.length c55) pp.1.length (txs pp.1)) hW _ _ pp.1 Vw.row hpc hfew true))) rfl ?_
                    rintro _ H' ⟨_, ⟨t2, r2, e2, rfl, hR2, hW2, htb2, hnx2, rfl⟩, hH⟩
                    simp only [List.cons_append, List.nil_append, List.eraseIdx_cons_zero, List.eraseIdx_cons_succ, List.set_cons_zero, List.set_cons_succ] at hH
                    subst hH
                    refine zR rfl (zg Tryz.call32 rfl rfl (by repeat (first | exact zS _ | apply zH 0 rfl | apply zH 1 rfl | apply zH 2 rfl | apply zH 3 rfl | apply zH 4 rfl | apply zH 5 rfl | apply zH 6 rfl | apply zH 7 rfl | apply zH 8 rfl | apply zH 9 rfl | apply zH 10 rfl | apply zH 11 rfl)) (yb e2)) rfl ?_
                    rintro _ H' ⟨_, ⟨rfl, rfl⟩, hH⟩
                    simp only [List.cons_append, List.nil_append, List.eraseIdx_cons_zero, List.eraseIdx_cons_succ, List.set_cons_zero, List.set_cons_succ] at hH
                    subst hH
                    first | refine qh (fun w F sw => qR (yi e2) sw) ?_ | refine qq (fun w F sw => qR (yi e2) sw) ?_
                    refine zw rfl (zo 4 qM rfl rfl rfl rfl rfl (Nat.le_of_ble_eq_true rfl) (zi _)) rfl ?_
                    rintro _ _ rfl
                    simp only [List.set_cons_zero, List.set_cons_succ]
                    refine zO ?_
                    refine zI ?_
                    refine zf ?_
                    refine zj ?_
                    refine zb ?_
                    refine' zY (qf rfl (qB qM rfl (RdN.of_pick 4 rfl zz) rfl)) ?_ ?_
                    rotate_left 1
                    exact ⟨t2, hs, ofK e2, none, 0, none, 0, (by first | rfl | (rw [← yP]; rfl)), (do_path hs16 hnb h7 hr14 hpp hpe (by unfold pathR; rw [if_neg (by omega), if_pos (by omega)]; exact ⟨r2, e2, hR2, rfl⟩)), ⟨r2, hW2⟩, htb2.trans htb, by omega, hH, rfl⟩
                    exact (zJ 0 rfl (zJ 0 rfl (zJ 4 rfl (zJ 0 rfl (zJ 3 rfl (zJ 3 rfl (zZ _)))))))
                  · replace hc73 := of_decide_eq_false hc73
                    refine zM ?_
                    refine zK ?_
                    refine zG rfl (qH rfl rfl (decide_eq_false (by omega))) rfl ?_
                    refine zG rfl (zN rfl) rfl ?_
                    refine zO ?_
                    refine zI ?_
                    refine qA rfl ?_
                    refine zM ?_
                    refine zK ?_
                    refine zG rfl (qH rfl rfl rfl) rfl ?_
                    refine zG rfl (zN rfl) rfl ?_
                    refine zO ?_
                    refine zI ?_
                    refine zt rfl (fun hc106 => ?_) (fun hc106 => ?_)
                    · replace hc106 := of_decide_eq_true hc106
                      refine zM ?_
                      refine zK ?_
                      refine zG rfl (zP fa35_2 rfl) rfl ?_
                      refine zG rfl (zW sc9 rfl (Rd.pick 2 rfl (Rd.own rfl))) rfl ?_
                      refine zR rfl (zg Tryz.call31 rfl rfl (by repeat (first | exact zS _ | apply zH 0 rfl | apply zH 1 rfl | apply zH 2 rfl | apply zH 3 rfl | apply zH 4 rfl | apply zH 5 rfl | apply zH 6 rfl | apply zH 7 rfl | apply zH 8 rfl | apply zH 9 rfl | apply zH 10 rfl | apply zH 11 rfl)) (xC V hP q.dest hq.dest)) rfl ?_
                      rintro _ H' ⟨_, ⟨_, ⟨p111, c111, rfl, rfl⟩, rfl⟩, hH⟩
                      simp only [List.cons_append, List.nil_append, List.eraseIdx_cons_zero, List.eraseIdx_cons_succ, List.set_cons_zero, List.set_cons_succ] at hH
                      subst hH
                      have hfew2 := pSplit_few q.dest
                      have hlast2 := pSplit_last q.dest
                      obtain ⟨p2, hp2⟩ : ∃ z, pSplit q.dest = z := ⟨_, rfl⟩
                      rw [hp2] at hfew2 hlast2 ⊢
                      refine zG rfl (zL rfl) rfl ?_
                      refine zG rfl (zv rfl rfl) rfl ?_
                      refine zG rfl (zv rfl rfl) rfl ?_
                      refine zG rfl (zN rfl) rfl ?_
                      refine zG rfl (zN rfl) rfl ?_
                      refine zO ?_
                      refine zI ?_
                      refine zM ?_
                      refine zM ?_
                      refine zK ?_
                      refine zG rfl (zL rfl) rfl ?_
                      refine zG rfl (qb rfl rfl rfl) rfl ?_
                      refine zO ?_
                      refine zI ?_
                      refine zt rfl (fun hc115 => ?_) (fun hc115 => ?_)
                      · replace hc115 := of_decide_eq_true hc115
                        refine zM ?_
                        refine zK ?_
                        refine zG rfl (zL rfl) rfl ?_
                        refine zR rfl (zg Tryz.call32 rfl rfl (by repeat (first | exact zS _ | apply zH 0 rfl | apply zH 1 rfl | apply zH 2 rfl | apply zH 3 rfl | apply zH 4 rfl | apply zH 5 rfl | apply zH 6 rfl | apply zH 7 rfl | apply zH 8 rfl | apply zH 9 rfl | apply zH 10 rfl | apply zH 11 rfl)) (yb p2.2)) rfl ?_
                        rintro _ H' ⟨_, ⟨rfl, rfl⟩, hH⟩
                        simp only [List.cons_append, List.nil_append, List.eraseIdx_cons_zero, List.eraseIdx_cons_succ, List.set_cons_zero, List.set_cons_succ] at hH
                        subst hH
                        first | refine qh (fun w F sw => qR (yi p2.2) sw) ?_ | refine qq (fun w F sw => qR (yi p2.2) sw) ?_
                        refine zw rfl (zo 5 qM rfl rfl rfl rfl rfl (Nat.le_of_ble_eq_true rfl) (zi _)) rfl ?_
                        rintro _ _ rfl
                        simp only [List.set_cons_zero, List.set_cons_succ]
                        refine zO ?_
                        refine zI ?_
                        refine zf ?_
                        refine zb ?_
                        refine zj ?_
                        refine zb ?_
                        refine' zY (qf rfl (qB qM rfl (RdN.of_pick 5 rfl zz) rfl)) ?_ ?_
                        rotate_left 1
                        exact ⟨t, hs, ofK p2.2, none, 0, none, 0, (by first | rfl | (rw [← yP]; rfl)), (do_path hs16 hnb h7 hr14 hpp hpe (by unfold pathR; rw [if_neg (by omega), if_neg (by omega), if_neg (by omega), if_pos (by omega)]; rw [hp2, if_pos (by omega)]; exact ⟨rfl, rfl⟩)), ⟨r, hW⟩, htb, by omega, hH, rfl⟩
                        exact (zJ 0 rfl (zJ 0 rfl (zJ 5 rfl (zJ 5 rfl (zJ 5 rfl (zJ 1 rfl (zZ _)))))))
                      · replace hc115 := of_decide_eq_false hc115
                        refine zn ?_
                        refine zI ?_
                        refine zM ?_
                        refine yJ (fun w F s => row_caps 0 rfl s) ?_
                        intro hpc2
                        refine zK ?_
                        refine zG rfl (zL rfl) rfl ?_
                        refine zG rfl (zU rfl) rfl ?_
                        refine zG rfl (zP yO rfl) rfl ?_
                        refine zG rfl (zW sc51 rfl (Rd.pick 5 rfl (Rd.own rfl))) rfl ?_
                        refine zG rfl (zL rfl) rfl ?_
                        refine zG rfl (zL rfl) rfl ?_
                        refine zR rfl (zy (Pre := [_]) Tryz.call37 rfl rfl (by repeat (first | exact zS _ | apply zH 0 rfl | apply zH 1 rfl | apply zH 2 rfl | apply zH 3 rfl | apply zH 4 rfl | apply zH 5 rfl | apply zH 6 rfl | apply zH 7 rfl | apply zH 8 rfl | apply zH 9 rfl | apply zH 10 rfl | apply zH 11 rfl)) (qi htb (frenK_spec hW _ _ pp.1 (Vw.pick 2 rfl Vw.row) hpc hfew _ _ p2.1 (Vw.pick 0 rfl Vw.row) hpc2 hfew2 (by omega)))) rfl ?_
                        rintro _ H' ⟨_, ⟨t2, r2, e2, rfl, hR2, hW2, htb2, hnx2, rfl⟩, hH⟩
                        simp only [List.cons_append, List.nil_append, List.eraseIdx_cons_zero, List.eraseIdx_cons_succ, List.set_cons_zero, List.set_cons_succ] at hH
                        subst hH
                        refine zR rfl (zg Tryz.call32 rfl rfl (by repeat (first | exact zS _ | apply zH 0 rfl | apply zH 1 rfl | apply zH 2 rfl | apply zH 3 rfl | apply zH 4 rfl | apply zH 5 rfl | apply zH 6 rfl | apply zH 7 rfl | apply zH 8 rfl | apply zH 9 rfl | apply zH 10 rfl | apply zH 11 rfl)) (yb e2)) rfl ?_
                        rintro _ H' ⟨_, ⟨rfl, rfl⟩, hH⟩
                        simp only [List.cons_append, List.nil_append, List.eraseIdx_cons_zero, List.eraseIdx_cons_succ, List.set_cons_zero, List.set_cons_succ] at hH
                        subst hH
                        first | refine qh (fun w F sw => qR (yi e2) sw) ?_ | refine qq (fun w F sw => qR (yi e2) sw) ?_
                        refine zw rfl (zo 6 qM rfl rfl rfl rfl rfl (Nat.le_of_ble_eq_true rfl) (zi _)) rfl ?_
                        rintro _ _ rfl
                        simp only [List.set_cons_zero, List.set_cons_succ]
                        refine zO ?_
                        refine zI ?_
                        refine zf ?_
                        refine zj ?_
                        refine zb ?_
                        refine' zY (qf rfl (qB qM rfl (RdN.of_pick 6 rfl zz) rfl)) ?_ ?_
                        rotate_left 1
                        exact ⟨t2, hs, ofK e2, none, 0, none, 0, (by first | rfl | (rw [← yP]; rfl)), (do_path hs16 hnb h7 hr14 hpp hpe (by unfold pathR; rw [if_neg (by omega), if_neg (by omega), if_neg (by omega), if_pos (by omega)]; rw [hp2, if_neg (by omega)]; exact ⟨r2, e2, hR2, rfl⟩)), ⟨r2, hW2⟩, htb2.trans htb, by omega, hH, rfl⟩
                        exact (zJ 0 rfl (zJ 0 rfl (zJ 6 rfl (zJ 0 rfl (zJ 5 rfl (zJ 1 rfl (zZ _)))))))
                    · replace hc106 := of_decide_eq_false hc106
                      refine zM ?_
                      refine zK ?_
                      refine zG rfl (qH rfl rfl rfl) rfl ?_
                      refine zG rfl (zN rfl) rfl ?_
                      refine zO ?_
                      refine zI ?_
                      refine zt rfl (fun hc126 => ?_) (fun hc126 => ?_)
                      · replace hc126 := of_decide_eq_true hc126
                        refine zM ?_
                        refine zK ?_
                        refine zG rfl (zL rfl) rfl ?_
                        refine zR rfl (zy (Pre := []) Tryz.call38 rfl rfl (zS _) (ptJoin_spec _ _ _ pp.1 (Vw.pick 0 rfl Vw.row) hpc (by omega) (fun x hx => Nat.le_trans (ptOk_30 (hall x hx)) (by decide)))) rfl ?_
                        rintro _ H' ⟨_, ⟨rfl, rfl⟩, hH⟩
                        simp only [List.cons_append, List.nil_append, List.eraseIdx_cons_zero, List.eraseIdx_cons_succ, List.set_cons_zero, List.set_cons_succ] at hH
                        subst hH
                        refine zG rfl (qT rfl (qJ (cs := Nm.cs ⟨pJoin pp.1, At.zero⟩) st87 rfl)) rfl ?_
                        refine zR rfl (eff_lit sl26 rfl (sbld (cs := flat Nm.cs [⟨pJoin pp.1, At.zero⟩]) [(.string ByteArray.empty), (.int .u32 0), (.int .u64 0), (.int .u32 0), (.int .u32 0), (.int .u32 0), (.int .u32 0), (.int .u32 0)] sl26 (by decide) (by kernel_rfl) rfl) rfl (by decide)) rfl ?_
                        rintro _ _ ⟨b131, rfl, rfl⟩
                        first | refine qh (fun w F sw => rep_data (l := []) rfl sw) ?_ | refine qq (fun w F sw => rep_data (l := []) rfl sw) ?_
                        refine zG rfl (qT rfl (qJ (cs := (Rk.rep ⟨4, 0, [], [], [⟨pJoin pp.1, At.zero⟩], At.zero⟩ none 0 (some ⟨b131, 0, none⟩) 1).cs) st32 rfl)) rfl ?_
                        refine zw rfl (zo 3 qM rfl rfl rfl rfl rfl (Nat.le_of_ble_eq_true rfl) (zi _)) rfl ?_
                        rintro _ _ rfl
                        simp only [List.set_cons_zero, List.set_cons_succ]
                        refine zO ?_
                        refine zI ?_
                        refine zf ?_
                        refine zj ?_
                        refine zb ?_
                        refine' zY (qf rfl (qB qM rfl (RdN.of_pick 3 rfl zz) rfl)) ?_ ?_
                        rotate_left 1
                        exact ⟨t, hs, ⟨4, 0, [], [], [⟨pJoin pp.1, At.zero⟩], At.zero⟩, none, 0, some ⟨b131, 0, none⟩, 1, rfl, (do_path hs16 hnb h7 hr14 hpp hpe (by unfold pathR; rw [if_neg (by omega), if_neg (by omega), if_neg (by omega), if_neg (by omega), if_pos (by omega)]; exact ⟨rfl, rfl⟩)), ⟨r, hW⟩, htb, by omega, hH, rfl⟩
                        exact (zJ 0 rfl (zJ 0 rfl (zJ 3 rfl (zJ 3 rfl (zJ 3 rfl (zJ 3 rfl (zZ _)))))))
                      · replace hc126 := of_decide_eq_false hc126
                        refine zM ?_
                        refine zK ?_
                        refine zG rfl (qH rfl rfl rfl) rfl ?_
                        refine zG rfl (zN rfl) rfl ?_
                        refine zO ?_
                        refine zI ?_
                        refine zt rfl (fun hc133 => ?_) (fun hc133 => ?_)
                        · replace hc133 := of_decide_eq_true hc133
                          refine zM ?_
                          refine zK ?_
                          refine zG rfl (zL rfl) rfl ?_
                          refine zG rfl (zU rfl) rfl ?_
                          refine zG rfl (zP yO rfl) rfl ?_
                          refine zG rfl (zW sc51 rfl (Rd.pick 3 rfl (Rd.own rfl))) rfl ?_
                          refine zG rfl (zL rfl) rfl ?_
                          refine zR rfl (zy (Pre := []) Tryz.call39 rfl rfl (zS _) (qi htb (look_spec (Tv.pick 4 rfl (q9 t)) hW _ _ pp.1 (Vw.pick 0 rfl Vw.row) hfew))) rfl ?_
                          rintro _ H' ⟨_, ⟨rfl, rfl⟩, hH⟩
                          simp only [List.cons_append, List.nil_append, List.eraseIdx_cons_zero, List.eraseIdx_cons_succ, List.set_cons_zero, List.set_cons_succ] at hH
                          subst hH
                          obtain ⟨⟨id3, e3⟩, hz3⟩ : ∃ z : Int × Int, lookO (fnd t.ns r pp.1) = z := ⟨_, rfl⟩
                          rw [hz3]
                          dsimp only
                          refine zG rfl (zL rfl) rfl ?_
                          refine zG rfl (zv rfl rfl) rfl ?_
                          refine zG rfl (zv rfl rfl) rfl ?_
                          refine zG rfl (zN rfl) rfl ?_
                          refine zG rfl (zN rfl) rfl ?_
                          refine zO ?_
                          refine zI ?_
                          refine yS 1034 (fun Δ LL => ∃ (t3 : Tr) (e4 : Int), ((∃ r3, Wf t3 r3) ∧ t3.tb = tb ∧ t3.next ≤ t.next + 1 ∧ (if e3 = 0 then SetR t id3 q.a t3 e4 else t3 = t ∧ e4 = e3)) ∧ Δ = [(16, .int .i64 e4)] ∧ LL = [own b6 (.cells ((Rk.rep ⟨0, 0, [], [], [], At.zero⟩ none 0 none 0).cs).toArray 32 (0, 0)), own b5 (.cells (q.cs).toArray 35 (0, 0)), oMa mb tb hs, tree t3, St (hs.map rowN), V]) (zT (k := 6) rfl (zh _)) ?_ ?_
                          · refine zM ?_
                            refine zK ?_
                            refine zG rfl (zL rfl) rfl ?_
                            refine zG rfl (qH rfl rfl rfl) rfl ?_
                            refine zO ?_
                            refine zI ?_
                            refine zt rfl (fun hc145 => ?_) (fun hc145 => ?_)
                            · replace hc145 := of_decide_eq_true hc145
                              refine q8 (L := [own b6 (.cells ((Rk.rep ⟨0, 0, [], [], [], At.zero⟩ none 0 none 0).cs).toArray 32 (0, 0)), own b5 (.cells (q.cs).toArray 35 (0, 0)), oMa mb tb hs, tree t, St (hs.map rowN), V]) (by repeat (first | exact zZ _ | refine zJ 0 rfl ?_ | refine zJ 1 rfl ?_ | refine zJ 2 rfl ?_ | refine zJ 3 rfl ?_ | refine zJ 4 rfl ?_ | refine zJ 5 rfl ?_ | refine zJ 6 rfl ?_ | refine zJ 7 rfl ?_ | refine zJ 8 rfl ?_ | refine zJ 9 rfl ?_ | refine zJ 10 rfl ?_ | refine zJ 11 rfl ?_ | refine zJ 12 rfl ?_ | refine zJ 13 rfl ?_ | refine SubH.rown ?_)) ?_
                              refine qX 8 (by kernel_rfl) (zH 1 rfl (zH 1 rfl (zS _))) ?_
                              refine zQ (i := 0) (by kernel_rfl) rfl rfl (zL rfl) rfl (fun _ _ _ h => h) ?_
                              refine zQ (i := 1) (by kernel_rfl) rfl rfl (zU rfl) rfl (fun _ _ _ h => h) ?_
                              refine zQ (i := 2) (by kernel_rfl) rfl rfl (zP yO rfl) rfl (fun _ _ _ h => h) ?_
                              refine zQ (i := 3) (by kernel_rfl) rfl rfl (zW sc51 rfl (Rd.pick 1 rfl (Rd.own rfl))) rfl (fun _ _ _ h => h) ?_
                              refine zQ (i := 4) (by kernel_rfl) rfl rfl (zL rfl) rfl (fun _ _ _ h => h) ?_
                              refine zQ (i := 5) (by kernel_rfl) rfl rfl (zP fa35_8 rfl) rfl (fun _ _ _ h => h) ?_
                              refine zQ (i := 6) (by kernel_rfl) rfl rfl (qc ag30 rfl (RdN.of_pick 0 rfl (rdn_sub 7)) rfl) rfl (fun _ _ _ h => h) ?_
                              refine qW (i := 7) (by kernel_rfl) rfl rfl (zg Tryz.call35 rfl rfl (by repeat (first | exact zS _ | apply zH 0 rfl | apply zH 1 rfl | apply zH 2 rfl | apply zH 3 rfl | apply zH 4 rfl | apply zH 5 rfl | apply zH 6 rfl | apply zH 7 rfl | apply zH 8 rfl | apply zH 9 rfl | apply zH 10 rfl | apply zH 11 rfl)) (qi htb (set_spec hW id3 q.a hq.a))) rfl ?_
                              rintro _ H' ⟨_, ⟨t3, e4, rfl, hR3, rfl⟩, hH⟩
                              simp only [List.cons_append, List.nil_append, List.eraseIdx_cons_zero, List.eraseIdx_cons_succ, List.set_cons_zero, List.set_cons_succ] at hH
                              subst hH
                              obtain ⟨hW3, hnx3, htb3, _⟩ := set_wf hW hq.a hR3
                              have htb3 : t3.tb = tb := by rw [htb3, htb]
                              refine qO (m' := 9) (L' := []) (by kernel_rfl) qt ?_
                              simp only [List.cons_append, List.nil_append, List.append_nil]
                              refine zQ (i := 8) (by kernel_rfl) rfl rfl (zN rfl) rfl (fun _ _ _ h => h) ?_
                              refine qV (by kernel_rfl) ?_
                              refine zI ?_
                              refine qg (qo ⟨t3, e4, ⟨hW3, htb3, by omega, by rw [if_pos (by omega)]; exact hR3⟩, rfl, rfl⟩ ?_ ?_ ?_)
                              · exact (by repeat (first | exact zh _ | refine zT rfl ?_))
                              · exact (by repeat (first | exact zh _ | refine zT rfl ?_))
                              · exact (zJ 3 rfl (zJ 0 rfl (zJ 0 rfl (zJ 0 rfl (zJ 0 rfl (zJ 0 rfl (zZ _)))))))
                            · replace hc145 := of_decide_eq_false hc145
                              refine zn ?_
                              refine zI ?_
                              refine qg (qo ⟨t, e3, ⟨⟨r, hW⟩, htb, by omega, by rw [if_neg (by omega)]; exact ⟨rfl, rfl⟩⟩, rfl, rfl⟩ ?_ ?_ ?_)
                              · exact (by repeat (first | exact zh _ | refine zT rfl ?_))
                              · exact (by repeat (first | exact zh _ | refine zT rfl ?_))
                              · exact (zJ 1 rfl (zJ 1 rfl (zJ 1 rfl (zJ 1 rfl (zJ 1 rfl (zJ 1 rfl (zZ _)))))))
                          · rintro Δ LL ⟨t3, e4, ⟨hW3, htb3, hnx3, hO3⟩, rfl, rfl⟩
                            simp only [List.cons_append, List.nil_append]
                            refine zM ?_
                            refine zK ?_
                            refine zG rfl (zL rfl) rfl ?_
                            refine zR rfl (zg Tryz.call32 rfl rfl (by repeat (first | exact zS _ | apply zH 0 rfl | apply zH 1 rfl | apply zH 2 rfl | apply zH 3 rfl | apply zH 4 rfl | apply zH 5 rfl | apply zH 6 rfl | apply zH 7 rfl | apply zH 8 rfl | apply zH 9 rfl | apply zH 10 rfl | apply zH 11 rfl)) (yb e4)) rfl ?_
                            rintro _ H' ⟨_, ⟨rfl, rfl⟩, hH⟩
                            simp only [List.cons_append, List.nil_append, List.eraseIdx_cons_zero, List.eraseIdx_cons_succ, List.set_cons_zero, List.set_cons_succ] at hH
                            subst hH
                            first | refine qh (fun w F sw => qR (yi e4) sw) ?_ | refine qq (fun w F sw => qR (yi e4) sw) ?_
                            refine zw rfl (zo 2 qM rfl rfl rfl rfl rfl (Nat.le_of_ble_eq_true rfl) (zi _)) rfl ?_
                            rintro _ _ rfl
                            simp only [List.set_cons_zero, List.set_cons_succ]
                            refine zO ?_
                            refine zI ?_
                            refine zf ?_
                            refine zj ?_
                            refine zb ?_
                            refine' zY (qf rfl (qB qM rfl (RdN.of_pick 2 rfl zz) rfl)) ?_ ?_
                            rotate_left 1
                            exact ⟨t3, hs, ofK e4, none, 0, none, 0, (by first | rfl | (rw [← yP]; rfl)), (do_path hs16 hnb h7 hr14 hpp hpe (by unfold pathR; rw [if_neg (by omega), if_neg (by omega), if_neg (by omega), if_neg (by omega), if_neg (by omega), if_pos (by omega)]; rw [hz3]; dsimp only; by_cases h0 : e3 = 0; (rw [if_pos h0] at hO3 ⊢; exact ⟨e4, hO3, rfl⟩); (rw [if_neg h0] at hO3 ⊢; exact ⟨hO3.1, by rw [hO3.2]⟩))), hW3, htb3, hnx3, hH, rfl⟩
                            exact (zJ 0 rfl (zJ 0 rfl (zJ 2 rfl (zJ 2 rfl (zJ 2 rfl (zJ 2 rfl (zZ _)))))))
                        · replace hc133 := of_decide_eq_false hc133
                          refine zn ?_
                          refine zV ?_
                          refine zI ?_
                          refine zM ?_
                          refine zK ?_
                          refine zG rfl (zL rfl) rfl ?_
                          refine zG rfl (zL rfl) rfl ?_
                          refine zG rfl (zU rfl) rfl ?_
                          refine zG rfl (zP yO rfl) rfl ?_
                          refine zG rfl (zW sc51 rfl (Rd.pick 3 rfl (Rd.own rfl))) rfl ?_
                          refine zG rfl (zL rfl) rfl ?_
                          refine zR rfl (zy (Pre := []) Tryz.call39 rfl rfl (zS _) (qi htb (look_spec (Tv.pick 4 rfl (q9 t)) hW _ _ pp.1 (Vw.pick 0 rfl Vw.row) hfew))) rfl ?_
                          rintro _ H' ⟨_, ⟨rfl, rfl⟩, hH⟩
                          simp only [List.cons_append, List.nil_append, List.eraseIdx_cons_zero, List.eraseIdx_cons_succ, List.set_cons_zero, List.set_cons_succ] at hH
                          subst hH
                          obtain ⟨⟨id3, e3⟩, hz3⟩ : ∃ z : Int × Int, lookO (fnd t.ns r pp.1) = z := ⟨_, rfl⟩
                          rw [hz3]
                          dsimp only
                          refine zG rfl (zv rfl rfl) rfl ?_
                          refine zG rfl (zv rfl rfl) rfl ?_
                          refine zR rfl (zy (Pre := []) Tryz.call40 rfl rfl (zS _) (told16_spec (Mq.of 3 4 rfl rfl htb) hdl id3 e3)) rfl ?_
                          rintro _ H' ⟨_, ⟨rfl, rfl⟩, hH⟩
                          simp only [List.cons_append, List.nil_append, List.eraseIdx_cons_zero, List.eraseIdx_cons_succ, List.set_cons_zero, List.set_cons_succ] at hH
                          subst hH
                          first | refine qh (fun w F sw => qR (dry_told t id3 e3) sw) ?_ | refine qq (fun w F sw => qR (dry_told t id3 e3) sw) ?_
                          refine zw rfl (zo 3 qM rfl rfl rfl rfl rfl (Nat.le_of_ble_eq_true rfl) (zi _)) rfl ?_
                          rintro _ _ rfl
                          simp only [List.set_cons_zero, List.set_cons_succ]
                          refine zO ?_
                          refine zI ?_
                          refine zf ?_
                          refine' zY (qf rfl (qB qM rfl (RdN.of_pick 3 rfl zz) rfl)) ?_ ?_
                          rotate_left 1
                          exact ⟨t, hs, toldK t id3 e3, none, 0, none, 0, (by first | rfl | (rw [← yP]; rfl)), (do_path hs16 hnb h7 hr14 hpp hpe (by unfold pathR; rw [if_neg (by omega), if_neg (by omega), if_neg (by omega), if_neg (by omega), if_neg (by omega), if_neg (by omega)]; rw [hz3]; exact ⟨rfl, rfl⟩)), ⟨r, hW⟩, htb, by omega, hH, rfl⟩
                          exact (zJ 0 rfl (zJ 0 rfl (zJ 3 rfl (zJ 3 rfl (zJ 3 rfl (zJ 3 rfl (zZ _)))))))
end Go.Proofs.YtlefpllcgcicpaaGreatDoor
namespace Go.Proofs.YtlefpllcgcicpaaGreatDoor
open Go.Sx
set_option maxRecDepth 100000
set_option maxHeartbeats 4000000
theorem rows_new : ∀ (n : Nat) {L : List HProp} {w : World} {F : HProp} (_ : sat w (star (St L) F)), sat w (star (St (St ((List.replicate n Hd.zero).map rowN) :: L)) F)
  | 0, L, w, F, s => by
    rw [qG]
    show sat w (star (star (St []) (St L)) F)
    rw [yT, emp_star]; exact s
  | n + 1, L, w, F, s => by
    have s1 := qv 87 8 w F (rows_new n s)
    rw [qG, qG, ← zq] at s1
    rw [qG, show (List.replicate (n + 1) Hd.zero).map rowN = rowN Hd.zero :: (List.replicate n Hd.zero).map rowN from rfl, qG]
    exact s1
theorem hs0_ok : HsOk (List.replicate 256 Hd.zero) := ⟨List.length_replicate, fun h hh => by rw [List.eq_of_mem_replicate hh]; exact ⟨by decide, by decide, by decide⟩⟩
theorem fnew_spec : Tri Tryz.prog 11 [] [] (fun v H' => ∃ mb t r, v = .pointer (some ⟨mb, 0, none⟩) ∧ t.ns = [r] ∧ t.next = 1 ∧ Wf t r ∧ H' = [oMa mb t.tb (List.replicate 256 Hd.zero), tree t, St ((List.replicate 256 Hd.zero).map rowN)]) := by
  refine zu Tryz.func11 rfl Tryz.ntmps11 (by simp) ?_
  refine zM ?_
  refine zK ?_
  refine zG rfl (zN rfl) rfl ?_
  refine zO ?_
  refine zI ?_
  refine zM ?_
  refine zK ?_
  refine zR rfl (zg Tryz.call27 rfl rfl (by repeat (first | exact zS _ | apply zH 0 rfl | apply zH 1 rfl | apply zH 2 rfl | apply zH 3 rfl | apply zH 4 rfl | apply zH 5 rfl | apply zH 6 rfl | apply zH 7 rfl | apply zH 8 rfl | apply zH 9 rfl | apply zH 10 rfl | apply zH 11 rfl)) (new_spec)) rfl ?_
  rintro _ H' ⟨_, ⟨t, r, rfl, hn1, hn2, hW, rfl⟩, hH⟩
  simp only [List.cons_append, List.nil_append, List.eraseIdx_cons_zero, List.eraseIdx_cons_succ, List.set_cons_zero, List.set_cons_succ] at hH
  subst hH
  refine zG rfl (qT rfl (qJ (cs := .pointer (some ⟨t.tb, 0, none⟩) :: flat Hd.cs (List.replicate 256 Hd.zero)) st71 (by kernel_rfl))) rfl ?_
  refine zR rfl (qj rfl) rfl ?_
  rintro _ _ ⟨b3, rfl, rfl⟩
  refine zG rfl (zN rfl) rfl ?_
  refine zO ?_
  refine qC (fun w F sw => rows_new 256 sw) ?_
  refine zf ?_
  refine' zY (qd rfl rfl) ?_ ?_
  rotate_left 1
  exact ⟨b3, t, r, rfl, hn1, hn2, hW, rfl⟩
  exact (zJ 1 rfl (zJ 1 rfl (zJ 0 rfl (zZ _))))
end Go.Proofs.YtlefpllcgcicpaaGreatDoor
namespace Go.Proofs.YtlefpllcgcicpaaGreatDoor
open Go.Sx
set_option maxRecDepth 100000
set_option maxHeartbeats 4000000
/-- the tree has a file nm of number 1, which holds w, and nothing else -/
structure G1 (t : Tr) (r : Nd) (nm w : List UInt8) : Prop where
  wf : Wf t r
  ns : ∃ x, t.ns = [r, x] ∧ x.id = 1 ∧ x.par = 0 ∧ x.dir = false ∧ x.name = nm ∧ x.data = w
section
variable {t t' : Tr} {r r' : Nd} {nm w y : List UInt8} {e : Int}
theorem G1.bytes (h : G1 t r nm w) : t.bytes = w.length := by
  obtain ⟨x, hx, _, _, _, _, h6⟩ := h.ns
  have h1 := h.wf.sum
  have h2 := h.wf.dat r h.wf.root h.wf.rdir
  rw [hx] at h1
  simp [h2, h6] at h1
  exact h1
theorem G1.le (h : G1 t r nm w) : w.length ≤ 1048576 := by rw [← h.bytes]; exact h.wf.max
theorem G1.file (h : G1 t r nm w) : ∃ x, t.ns = [r, x] ∧ r.blk ≠ x.blk ∧ byId t.ns 1 = some x ∧ fnd t.ns r [nm] = some x ∧ x.id = 1 ∧ x.par = 0 ∧ x.dir = false ∧ x.name = nm ∧ x.data = w := by
  obtain ⟨x, hx, h1, h2, h3, h4, h5⟩ := h.ns
  have hb := h.wf.kd.blks
  have hr := h.wf.rid
  have hp := h.wf.rpar
  rw [hx] at hb
  simp at hb
  refine ⟨x, hx, hb, ?_, ?_, h1, h2, h3, h4, h5⟩
  · rw [hx, byId_cons, if_neg (by omega), byId_cons, if_pos (by omega)]
  · show (match kid t.ns r.id nm with | some y => fnd t.ns y [] | none => none) = _
    rw [hx, kid_cons, if_neg (fun h => by have := h.1; omega), kid_cons, if_pos ⟨by omega, h4⟩]; rfl
def put2 (w : List UInt8) (k : Nat) (y : List UInt8) : List UInt8 := if y.length = 0 then w else wr2 (szd w (max (k + y.length) w.length)) k y
theorem g1_write {k : Nat} (h : G1 t r nm w) (hk : k + y.length ≤ 1048576) (hR : WriteR t 1 k y t' e) : e = 0 ∧ G1 t' r nm (put2 w k y) ∧ t'.tb = t.tb := by
  obtain ⟨x, hx, hb, hi, hf, h1, h2, h3, h4, h5⟩ := h.file
  have hF : fileO (byId t.ns 1) = (some x, 0) := by rw [hi]; simp [fileO, h3]
  have hby := h.bytes
  have hle := h.le
  have hxm : x ∈ t.ns := by rw [hx]; simp
  rcases hR with ⟨h6, _, _⟩ | ⟨x2, h6, h7⟩
  · rw [hF] at h6; simp at h6
  · rw [hF] at h6
    have e1 : x2 = x := by have := congrArg Prod.fst h6; simpa using this.symm
    subst e1
    have hs : szE t x2 (max (k + y.length) x2.data.length) = 0 := by unfold szE; rw [h5, if_neg (by omega), if_neg (by omega)]
    rcases h7 with ⟨h8, h9, rfl⟩ | ⟨_, h8, _⟩ | ⟨h8, _, h9 | ⟨_, h10, b0, rfl⟩⟩
    · unfold put2; rw [if_pos h8]; exact ⟨h9, h, rfl⟩
    · omega
    · exact absurd hs (by rw [h9.1]; exact h9.2.1)
    · refine ⟨h10, ⟨?_, datF (some ⟨b0, 0, none⟩) (max (k + y.length) x2.data.length) (wr2 (szd x2.data (max (k + y.length) x2.data.length)) k y) x2, ?_, h1, h2, h3, h4, ?_⟩, rfl⟩
      · refine wf_data h.wf hxm h3 ?_
        rw [wr2_len (by rw [szd_len]; omega), szd_len, h5]; omega
      · show turnB x2.blk _ t.ns = _
        rw [hx]
        show [if r.blk = x2.blk then _ else _, if x2.blk = x2.blk then _ else _] = _
        rw [if_neg hb, if_pos rfl]
      · show wr2 _ k y = _
        unfold put2; rw [if_neg (by omega), h5]
theorem g1_set {bw : At} (h : G1 t r nm w) (hbw : bw.Ok) (hr : bw.right = true) (hs : bw.f &&& 1 ≠ 0 → bw.s ≤ 1048576) (hR : SetR t 1 bw t' e) : e = 0 ∧ G1 t' r nm (if bw.f &&& 1 ≠ 0 then szd w bw.s else w) ∧ t'.tb = t.tb := by
  obtain ⟨x, hx, hb, hi, hf, h1, h2, h3, h4, h5⟩ := h.file
  have hby := h.bytes
  have hle := h.le
  have hxm : x ∈ t.ns := by rw [hx]; simp
  rcases hR with ⟨h6, _⟩ | ⟨x2, h6, h7⟩
  · rw [hi] at h6; cases h6
  · rw [hi] at h6
    injection h6 with h6; subst h6
    have hz : bw.f &&& 1 ≠ 0 → szE t x bw.s = 0 := fun hf1 => by
      have := hs hf1
      unfold szE; rw [h5, if_neg (by omega), if_neg (by omega)]
    rcases h7 with ⟨h8, _⟩ | ⟨_, _, h8, _⟩ | ⟨_, h8, _, h9, h10, _⟩ | ⟨_, rfl, t1, x1, h8, h9, h10, rfl⟩
    · rw [hr] at h8; cases h8
    · rw [h3] at h8; cases h8
    · exact absurd (hz h8) (by rw [h9]; exact h10)
    · have ha := merge_ok (by rw [h10]; exact (h.wf.a x hxm).1 : x1.a.Ok) hbw
      refine ⟨rfl, ?_⟩
      have key : G1 t1 r nm (if bw.f &&& 1 ≠ 0 then szd w bw.s else w) ∧ t1.tb = t.tb ∧ t1.ns = [r, x1] ∧ x1.id = 1 ∧ x1.par = 0 ∧ x1.dir = false ∧ x1.name = nm ∧ x1.data = (if bw.f &&& 1 ≠ 0 then szd w bw.s else w) := by
        rcases h8 with ⟨h11, _, h12, b, rfl, rfl⟩ | ⟨h11, rfl, rfl⟩
        · have hm := szE_max h12
          have e1 : (dataT t x (some ⟨b, 0, none⟩) bw.s (szd x.data bw.s)).ns = [r, datF (some ⟨b, 0, none⟩) bw.s (szd x.data bw.s) x] := by
            show turnB x.blk _ t.ns = _
            rw [hx]
            show [if r.blk = x.blk then _ else _, if x.blk = x.blk then _ else _] = _
            rw [if_neg hb, if_pos rfl]
          have e2 : (datF (some ⟨b, 0, none⟩) bw.s (szd x.data bw.s) x).data = (if bw.f &&& 1 ≠ 0 then szd w bw.s else w) := by
            rw [if_pos h11, ← h5]; rfl
          exact ⟨⟨wf_data h.wf hxm h3 (by rw [szd_len]; exact hm.2), _, e1, h1, h2, h3, h4, e2⟩, rfl, e1, h1, h2, h3, h4, e2⟩
        · rw [if_neg (fun h => h h11)]
          exact ⟨h, rfl, hx, h1, h2, h3, h4, h5⟩
      obtain ⟨k1, k2, k3, k4, k5, k6, k7, k8⟩ := key
      have hb1 : r.blk ≠ x1.blk := by rw [h9]; exact hb
      refine ⟨⟨?_, attF { x1.a.merge bw with s := 0 } x1, ?_, k4, k5, k6, k7, k8⟩, k2⟩
      · have hw := wf_att (x := x1) k1.wf (a := { x1.a.merge bw with s := 0 }) ⟨⟨ha.f, (by show (0 : Nat) < 18446744073709551616; decide), ha.u, ha.g, ha.m, ha.a, ha.t⟩, rfl⟩
        rw [if_neg hb1] at hw
        exact hw
      · show turnB x1.blk _ t1.ns = _
        rw [k3]
        show [if r.blk = x1.blk then _ else _, if x1.blk = x1.blk then _ else _] = _
        rw [if_neg hb1, if_pos rfl]
theorem make_wf {p : List (List UInt8)} {dir : Bool} {i : Int} (hW : Wf t r) (h : MakeR t r p dir t' r' i e) : Wf t' r' := by
  rcases h with ⟨rfl, rfl, _⟩ | ⟨hp, x, hh, hf, _, _, b, kp, kc, hb, rfl, rfl⟩
  · exact hW
  · obtain ⟨h1, hdir, hno, _, hok, _⟩ := xA hh
    exact wf_made hW (ya hW.root h1) hdir hno hok hf hb
theorem g1_make (hW : Wf t r) (hns : t.ns = [r]) (hn : t.next = 1) (hok : ptOk nm = true) {i : Int} (h : MakeR t r [nm] false t' r' i e) (hW' : Wf t' r') : i = 1 ∧ e = 0 ∧ G1 t' r' nm [] ∧ t'.tb = t.tb := by
  obtain ⟨h1, h2, _, _, h5, b, _, _, _, h6⟩ := mk_first hW hns hok h
  exact ⟨by rw [h1, hn]; rfl, h2, ⟨hW', _, h6, hn, rfl, rfl, rfl, rfl⟩, h5⟩
theorem G1.look (h : G1 t r nm w) : lookO (fnd t.ns r [nm]) = (1, 0) := by
  obtain ⟨x, hx, hb, hi, hf, h1, h2, h3, h4, h5⟩ := h.file
  rw [hf]; show ((x.id : Int), (0 : Int)) = _; rw [h1]; rfl
theorem G1.att (h : G1 t r nm w) : ∃ a : At, attO (byId t.ns 1) = (a, 0) ∧ a.s = w.length := by
  obtain ⟨x, hx, hb, hi, hf, h1, h2, h3, h4, h5⟩ := h.file
  exact ⟨x.told, by rw [hi]; rfl, by rw [← h5]; rfl⟩
theorem G1.dir (h : G1 t r nm w) : dirO (byId t.ns 1) = false := by
  obtain ⟨x, hx, hb, hi, hf, h1, h2, h3, h4, h5⟩ := h.file
  rw [hi]; exact h3
theorem G1.read (h : G1 t r nm w) (a n : Nat) : readO (byId t.ns 1) a n = if w.length ≤ a then ([], 10) else ((w.drop a).take (min (w.drop a).length (min n 32768)), 0) := by
  obtain ⟨x, hx, hb, hi, hf, h1, h2, h3, h4, h5⟩ := h.file
  unfold readO
  rw [hi, show fileO (some x) = (some x, 0) by simp [fileO, h3]]
  show readX x a n = _
  unfold readX; rw [h5]
end
section
variable {hs : List Hd} {s i j n : Nat} {y : Hd}
theorem hdA_set (hl : hs.length = 256) (h16 : s < 16) (hi : i < 16) (hj : j < 16) {s2 : Nat} (h2 : s2 < 16) : hdA (hs.set (s * 16 + i) y) s2 j = if s2 = s ∧ j = i then y else hdA hs s2 j := by
  unfold hdA
  rw [List.getD_eq_getElem?_getD, List.getD_eq_getElem?_getD, List.getElem?_set]
  by_cases h : s2 = s ∧ j = i
  · obtain ⟨rfl, rfl⟩ := h
    rw [if_pos rfl, if_pos (by omega), if_pos ⟨rfl, rfl⟩]; rfl
  · rw [if_neg (by intro e; apply h; omega), if_neg h]
theorem find_zero (h : (hdA hs s 0).used = true) : findH hs s [104, 48] = some 0 := find_hit (i := 0) (fun j hj => by omega) (by omega) ⟨h, by unfold hname; rw [Go.Lib.decDigits_one (by decide)]; rfl⟩
theorem free_zero (h : (hdA hs s 0).used = false) : freeH hs s = some 0 := free_hit (i := 0) (fun j hj => by omega) (by omega) h
theorem hdA_new (s i : Nat) : hdA (List.replicate 256 Hd.zero) s i = Hd.zero := by
  unfold hdA
  rw [List.getD_eq_getElem?_getD, List.getElem?_replicate]
  split <;> rfl
end
section
variable {t t' : Tr} {r r' : Nd} {nm w : List UInt8} {hs hs' : List Hd} {s n i : Nat} {q : Qr} {k : Rk}
theorem do_of_by (h16 : s < 16) (hb : byH q.kind) (h : doR t r hs (s : Int) q t' hs' k) : byR t r hs s q t' hs' k := by
  unfold doR at h
  rw [if_neg (by omega), if_pos hb, Int.toNat_natCast] at h; exact h
theorem do_of_path (h16 : s < 16) (hb : ¬ byH q.kind) (h7 : ¬ (q.kind < 7 ∨ 18 < q.kind)) (h14 : ¬ (q.kind = 14 ∧ q.a.right = false)) (hp : (pSplit q.path).2 = 0) (h : doR t r hs (s : Int) q t' hs' k) : hs' = hs ∧ pathR t r q (pSplit q.path).1 t' k := by
  unfold doR at h
  rw [if_neg (by omega), if_neg hb, if_neg h7, if_neg h14, if_neg (by omega)] at h; exact h
/-- the first file is opened -/
theorem run_first (hW : Wf t r) (hns : t.ns = [r]) (hn : t.next = 1) (h16 : s < 16) (hk : q.kind = 3) (hp : pSplit q.path = ([nm], 0)) (hok : ptOk nm = true) (ha : q.a = At.zero) (hf3 : q.flags &&& 3 ≠ 0) (hf8 : q.flags &&& 8 ≠ 0) (hf18 : q.flags &&& 18 ≠ 18) (hfr : freeH hs s = some n)
    (h : doR t r hs (s : Int) q t' hs' k) : ∃ r', G1 t' r' nm [] ∧ t'.tb = t.tb ∧ hs' = hs.set (s * 16 + n) ⟨true, 1, false, q.flags &&& 7, none, 0, []⟩ ∧ k = hdlK n := by
  have h := do_of_by h16 (by unfold byH; omega) h
  unfold byR at h
  rw [if_pos hk] at h
  unfold openR at h
  rw [hfr] at h
  dsimp only at h
  have hno : fnd t.ns r [nm] = none := by
    show (match kid t.ns r.id nm with | some y => fnd t.ns y [] | none => none) = _
    have := hW.rid; have := hW.rpar
    rw [hns, kid_cons, if_neg (fun h => by have := h.1; omega), kid_nil]
  rw [hp, if_neg (by rintro (h1 | h1 | h1); exact hf3 h1; (rw [ha] at h1; exact absurd h1 (by decide)); exact h1 rfl)] at h
  dsimp only at h
  rw [hno, if_neg (by decide), if_neg hf8] at h
  obtain ⟨t1, r1, i, e, hM, h⟩ := h
  obtain ⟨rfl, rfl, hG, htb⟩ := g1_make hW hns hn hok hM (make_wf hW hM)
  rw [if_neg (by decide)] at h
  obtain ⟨t2, e2, hS, h⟩ := h
  rw [ha] at hS
  obtain ⟨_, hG2, htb2⟩ := g1_set hG (bare_ok At.zero_ok) (by decide) (by decide) hS
  rw [if_neg (by decide)] at hG2
  unfold openT at h
  rw [if_neg hf18] at h
  obtain ⟨rfl, rfl, rfl⟩ := h
  exact ⟨r1, hG2, by rw [htb2, htb], rfl, rfl⟩
theorem fileI_hit (hG : G1 t r nm w) {hn : List UInt8} (hf : findH hs s hn = some i) (hi : (hdA hs s i).id = 1 ∧ (hdA hs s i).dir = false) : fileI t hs s hn = some i := by
  obtain ⟨a, ha, _⟩ := hG.att
  unfold fileI
  rw [hf]
  dsimp only
  rw [hi.1, ha, if_pos ⟨hi.2, rfl⟩]
/-- the file is written -/
theorem run_write (hG : G1 t r nm w) (h16 : s < 16) (hk : q.kind = 6) (hf : findH hs s q.handle = some i) (hi : (hdA hs s i).id = 1 ∧ (hdA hs s i).dir = false) (hd : q.data.length ≤ 32768) (ho : q.off + q.data.length ≤ 1048576) (hw : w.length + q.data.length ≤ 1048576)
    (h : doR t r hs (s : Int) q t' hs' k) : hs' = hs ∧ t'.tb = t.tb ∧ if (hdA hs s i).flags &&& 2 = 0 then t' = t ∧ k = Rk.stat 3 else k = Rk.stat 0 ∧ G1 t' r nm (put2 w (if (hdA hs s i).flags &&& 4 ≠ 0 then w.length else q.off) q.data) := by
  have h := do_of_by h16 (by unfold byH; omega) h
  unfold byR at h
  rw [if_neg (by omega), if_neg (by omega), if_neg (by omega), if_pos hk] at h
  obtain ⟨rfl, h⟩ := h
  unfold writeR at h
  rw [fileI_hit hG hf hi] at h
  dsimp only at h
  by_cases h2 : (hdA hs' s i).flags &&& 2 = 0
  · rw [if_pos h2] at h ⊢
    exact ⟨rfl, by rw [h.1], h⟩
  · rw [if_neg h2, if_neg (by omega)] at h
    rw [if_neg h2]
    obtain ⟨e, hR, rfl⟩ := h
    obtain ⟨a, ha, has⟩ := hG.att
    rw [hi.1, ha] at hR
    have e1 : (if (hdA hs' s i).flags &&& 4 ≠ 0 then ((a, (0 : Int)) : At × Int).1.s else q.off) = (if (hdA hs' s i).flags &&& 4 ≠ 0 then w.length else q.off) := by
      show (if _ then a.s else _) = _
      rw [has]
    rw [e1] at hR
    obtain ⟨rfl, hG2, htb⟩ := g1_write hG (by split <;> omega) hR
    exact ⟨rfl, htb, rfl, hG2⟩
/-- what is told of the file -/
theorem run_stat (hG : G1 t r nm w) (h16 : s < 16) (hk : q.kind = 17) (hp : pSplit q.path = ([nm], 0)) (h : doR t r hs (s : Int) q t' hs' k) : t' = t ∧ hs' = hs ∧ ∃ a : At, k = ⟨5, 0, [], [], [], a⟩ ∧ a.s = w.length := by
  obtain ⟨rfl, h2⟩ := do_of_path h16 (by unfold byH; omega) (by omega) (by omega) (by rw [hp]) h
  unfold pathR at h2
  rw [if_neg (by omega), if_neg (by omega), if_neg (by omega), if_neg (by omega), if_neg (by omega), if_neg (by omega), hp] at h2
  obtain ⟨rfl, rfl⟩ := h2
  dsimp only
  rw [hG.look]
  obtain ⟨a, ha, has⟩ := hG.att
  refine ⟨rfl, rfl, a, ?_, has⟩
  unfold toldK
  dsimp only
  rw [if_neg (by decide), ha, if_neg (fun h => h rfl)]
theorem run_close (h16 : s < 16) (hk : q.kind = 4) (h : doR t r hs (s : Int) q t' hs' k) : t' = t ∧ closeR hs s q hs' k := by
  have h := do_of_by h16 (by unfold byH; omega) h
  unfold byR at h
  rw [if_neg (by omega), if_pos hk] at h
  exact h
end
end Go.Proofs.YtlefpllcgcicpaaGreatDoor
