/-
  Package fsm: Do.
  Package fsm: New, Open, Drop.
  Package fsm: Open, Drop.
  Package fsm: put.
-/
import Derived.Test.YtlefpllcgcicpaaGreatDoorFsI
import Derived.Test.YtlefpllcgcicpaaGreatDoorTrK
import Derived.Test.YtlefpllcgcicpaaGreatDoorWire
import Derived.Test.YtlefpllcgcicpaaGreatDoorSxFork
import Derived.Test.YtlefpllcgcicpaaGreatDoorTrSt
import Derived.Test.YtlefpllcgcicpaaGreatDoorAttr
set_option linter.unusedVariables false
set_option linter.unusedSimpArgs false
namespace Go.Proofs.YtlefpllcgcicpaaGreatDoor
open Go.Sx
set_option maxRecDepth 100000
set_option maxHeartbeats 4000000
theorem frenK_spec {V : HProp} {t : Tr} {r : Nd} (hW : Wf t r) (q : Option Addr) (cq : Nat) (fr : List (List UInt8)) (hV1 : Vw V (.slice q fr.length cq) fr.length (txs fr)) (hcq : fr.length ≤ cq) (hlf : fr.length ≤ 100000) (q2 : Option Addr) (cq2 : Nat) (tq : List (List UInt8)) (hV2 : Vw V (.slice q2 tq.length cq2) tq.length (txs tq)) (hcq2 : tq.length ≤ cq2) (hlt : tq.length ≤ 100000) (hln : (lastN tq).length ≤ 9223372036854775807) :
 Tri Tryz.prog 37 [t.v, .slice q fr.length cq, .slice q2 tq.length cq2] [tree t, V] (fun v H' => ∃ K, (∃ t' r' e, v = .int .i64 e ∧ RenR t r fr tq t' r' e ∧ Wf t' r' ∧ t'.tb = t.tb ∧ t'.next = t.next ∧ K = [tree t']) ∧ H' = K ++ [V]) := by
 refine tri_post (rename_spec hW q cq fr hV1 hcq hlf q2 cq2 tq hV2 hcq2 hlt hln) ?_
 rintro v H' ⟨t', r', e, h1, h2, h3, h4, h5, h6⟩
 exact ⟨[tree t'], ⟨t', r', e, h1, h2, h3, h4, h5, rfl⟩, h6⟩
section
variable {t t' : Tr} {r : Nd} {hs hs' : List Hd} {s : Nat} {q : Qr} {k : Rk} {pp : List (List UInt8) × Int}
theorem do_by (h : s < 16) (hb : byH q.kind ∧ byR t r hs s q t' hs' k) : doR t r hs s q t' hs' k := by
 unfold doR
 rw [if_neg (by omega), if_pos hb.1, Int.toNat_natCast]; exact hb.2
theorem do_none (h : s < 16) (hb : ¬ byH q.kind) (h7 : q.kind < 7 ∨ 18 < q.kind) : doR t r hs s q t hs (Rk.stat 8) := by
 unfold doR
 rw [if_neg (by omega), if_neg hb, if_pos h7]; exact ⟨rfl, rfl, rfl⟩
theorem do_right (h : s < 16) (hb : ¬ byH q.kind) (h7 : ¬ (q.kind < 7 ∨ 18 < q.kind)) (h14 : q.kind = 14) (hr : q.a.right = false) : doR t r hs s q t hs (Rk.stat 4) := by
 unfold doR
 rw [if_neg (by omega), if_neg hb, if_neg h7, if_pos ⟨h14, hr⟩]; exact ⟨rfl, rfl, rfl⟩
theorem do_split (h : s < 16) (hb : ¬ byH q.kind) (h7 : ¬ (q.kind < 7 ∨ 18 < q.kind)) (h14 : ¬ (q.kind = 14 ∧ q.a.right = false)) (hpp : pSplit q.path = pp) (hpe : pp.2 ≠ 0) : doR t r hs s q t hs (ofK pp.2) := by
 unfold doR
 rw [if_neg (by omega), if_neg hb, if_neg h7, if_neg h14, hpp, if_pos hpe]; exact ⟨rfl, rfl, rfl⟩
theorem do_path (h : s < 16) (hb : ¬ byH q.kind) (h7 : ¬ (q.kind < 7 ∨ 18 < q.kind)) (h14 : ¬ (q.kind = 14 ∧ q.a.right = false)) (hpp : pSplit q.path = pp) (hpe : pp.2 = 0) (hp : pathR t r q pp.1 t' k) : doR t r hs s q t' hs k := by
 unfold doR
 rw [if_neg (by omega), if_neg hb, if_neg h7, if_neg h14, hpp, if_neg (by omega)]; exact ⟨rfl, hp⟩
end
theorem do16_spec {V : HProp} {mb tb : Nat} {t : Tr} {hs : List Hd} {r : Nd} (hW : Wf t r) (htb : t.tb = tb) (hH : HsOk hs) (s : Int) (q : Qr) (hq : q.Ok) (hP : Ml V) (hnx : t.next ≤ 9223372036854775806) (hD : Vw V (.slice q.dp q.data.length q.dc) q.data.length (cel q.data)) : Tri Tryz.prog 12 [.pointer (some ⟨mb, 0, none⟩), .int .i64 s, q.v] [oMa mb tb hs, tree t, St (hs.map rowN), V]
 (fun v H' => ∃ t' hs' k dp dc np nc, v = (k.rep dp dc np nc).v ∧ doR t r hs s q t' hs' k ∧ (∃ r', Wf t' r') ∧ t'.tb = tb ∧ t'.next ≤ t.next + 1 ∧ HsOk hs' ∧ H' = [rowD dp dc k.data, rowNm np nc k.names, oMa mb tb hs', tree t', St (hs'.map rowN), V]) := by
 by_cases hb : s < 0 ∨ 16 ≤ s
 ·skip
  refine zt Tryz.func12 rfl Tryz.ntmps12 (by simp) ?_
  refine zM ?_
  refine zK ?_
  refine zT rfl (qj rfl) rfl ?_
  rintro _ _ ⟨b5, rfl, rfl⟩
  refine zT rfl (qL z32) rfl ?_
  rintro _ _ ⟨b6, rfl, rfl⟩
  refine zN ?_
  refine zI ?_
  refine zM ?_
  refine zM ?_
  refine zK ?_
  refine zH rfl (zL rfl) rfl ?_
  refine zH rfl (yP rfl rfl rfl) rfl ?_
  refine qi rfl rfl rfl (fun hg19 => ?_) (fun hg19 => ?_)
  ·replace hg19 := zy2 hg19
   refine zZ rfl rfl ?_
   refine zZ rfl rfl ?_
   refine zH rfl (zr rfl rfl) rfl ?_
   refine zN ?_
   refine zI ?_
   refine qG rfl ?_
   refine zM ?_
   refine zK ?_
   refine zT rfl (zb Tryz.call28 rfl rfl (by repeat (first | exact zR _ | apply zG 0 rfl | apply zG 1 rfl | apply zG 2 rfl | apply zG 3 rfl | apply zG 4 rfl | apply zG 5 rfl | apply zG 6 rfl | apply zG 7 rfl | apply zG 8 rfl | apply zG 9 rfl | apply zG 10 rfl | apply zG 11 rfl)) (qS 4)) rfl ?_
   rintro _ H' ⟨_, ⟨rfl, rfl⟩, hH⟩
   simp only [List.cons_append, List.nil_append, List.eraseIdx_cons_zero, List.eraseIdx_cons_succ, List.set_cons_zero, List.set_cons_succ] at hH
   subst hH
   first | refine qp (fun w F sw => qb (qw 4) sw) ?_ | refine qu (fun w F sw => qb (qw 4) sw) ?_
   refine zo rfl (zm 2 qW rfl rfl rfl rfl rfl (zy1 rfl) (zg _)) rfl ?_
   rintro _ _ rfl
   simp only [List.set_cons_zero, List.set_cons_succ]
   refine zN ?_
   refine zI ?_
   refine zi ?_
   refine zh ?_
   refine' zX (qg rfl (qB qW rfl (zy6 2 rfl zx) rfl)) ?_ ?_
   rotate_left 1
   exact ⟨t, hs, Rk.stat 4, none, 0, none, 0, rfl, (by unfold doR; rw [if_pos hb]; exact ⟨rfl, rfl, rfl⟩), ⟨r, hW⟩, htb, by omega, hH, rfl⟩
   exact (zJ 0 rfl (zJ 0 rfl (zJ 2 rfl (zJ 2 rfl (zJ 2 rfl (zJ 2 rfl (zY _)))))))
  ·replace hg19 := zy3 hg19
   refine zH rfl (zL rfl) rfl ?_
   refine zH rfl (ro_geq rfl rfl (decide_eq_true (by omega))) rfl ?_
   refine zH rfl (zr rfl rfl) rfl ?_
   refine zN ?_
   refine zI ?_
   refine qG rfl ?_
   refine zM ?_
   refine zK ?_
   refine zT rfl (zb Tryz.call28 rfl rfl (by repeat (first | exact zR _ | apply zG 0 rfl | apply zG 1 rfl | apply zG 2 rfl | apply zG 3 rfl | apply zG 4 rfl | apply zG 5 rfl | apply zG 6 rfl | apply zG 7 rfl | apply zG 8 rfl | apply zG 9 rfl | apply zG 10 rfl | apply zG 11 rfl)) (qS 4)) rfl ?_
   rintro _ H' ⟨_, ⟨rfl, rfl⟩, hH⟩
   simp only [List.cons_append, List.nil_append, List.eraseIdx_cons_zero, List.eraseIdx_cons_succ, List.set_cons_zero, List.set_cons_succ] at hH
   subst hH
   first | refine qp (fun w F sw => qb (qw 4) sw) ?_ | refine qu (fun w F sw => qb (qw 4) sw) ?_
   refine zo rfl (zm 2 qW rfl rfl rfl rfl rfl (zy1 rfl) (zg _)) rfl ?_
   rintro _ _ rfl
   simp only [List.set_cons_zero, List.set_cons_succ]
   refine zN ?_
   refine zI ?_
   refine zi ?_
   refine zh ?_
   refine' zX (qg rfl (qB qW rfl (zy6 2 rfl zx) rfl)) ?_ ?_
   rotate_left 1
   exact ⟨t, hs, Rk.stat 4, none, 0, none, 0, rfl, (by unfold doR; rw [if_pos hb]; exact ⟨rfl, rfl, rfl⟩), ⟨r, hW⟩, htb, by omega, hH, rfl⟩
   exact (zJ 0 rfl (zJ 0 rfl (zJ 2 rfl (zJ 2 rfl (zJ 2 rfl (zJ 2 rfl (zY _)))))))
 ·obtain ⟨s, rfl⟩ : ∃ s' : Nat, s = (s' : Int) := ⟨s.toNat, by omega⟩
  have hs16 : s < 16 := by omega
  refine zt Tryz.func12 rfl Tryz.ntmps12 (by simp) ?_
  refine zM ?_
  refine zK ?_
  refine zT rfl (qj rfl) rfl ?_
  rintro _ _ ⟨b5, rfl, rfl⟩
  refine zT rfl (qL z32) rfl ?_
  rintro _ _ ⟨b6, rfl, rfl⟩
  refine zN ?_
  refine zI ?_
  refine zM ?_
  refine zM ?_
  refine zK ?_
  refine zH rfl (zL rfl) rfl ?_
  refine zH rfl (yP rfl rfl (decide_eq_false (by omega))) rfl ?_
  refine zH rfl (zL (v := .bool false) rfl) rfl ?_
  refine zH rfl (zL rfl) rfl ?_
  refine zH rfl (ro_geq rfl rfl (decide_eq_false (by omega))) rfl ?_
  refine zH rfl (zr rfl rfl) rfl ?_
  refine zN ?_
  refine zI ?_
  refine qC rfl ?_
  refine zl ?_
  refine zI ?_
  refine zM ?_
  refine yO 1004 (fun Δ LL => ∃ (t1 : Tr) (hs1 : List Hd) (k1 : Rk) (dp1 : Option Addr) (dc1 : Nat) (np1 : Option Addr) (nc1 : Nat) (b1 : Bool) (b7 : Nat), (((b1 = true ∧ byH q.kind ∧ byR t r hs s q t1 hs1 k1) ∨ (b1 = false ∧ ¬ byH q.kind ∧ t1 = t ∧ hs1 = hs)) ∧ (∃ r', Wf t1 r') ∧ t1.tb = tb ∧ t1.next ≤ t.next + 1 ∧ HsOk hs1) ∧ Δ = [(7, .pointer (some ⟨b7, 0, none⟩)), (8, .bool b1)] ∧ LL = [own b6 (.cells ((Rk.rep ⟨0, 0, [], [], [], At.zero⟩ none 0 none 0).cs).toArray 32 (0, 0)), own b5 (.cells (q.cs).toArray 35 (0, 0)), own b7 (.cells ((k1.rep dp1 dc1 np1 nc1).cs).toArray 32 (0, 0)), rowD dp1 dc1 k1.data, rowNm np1 nc1 k1.names, oMa mb tb hs1, tree t1, St (hs1.map rowN), V]) (zS (k := 0) rfl (zS (k := 5) rfl (zS (k := 6) rfl (zf _)))) ?_ ?_
  ·refine zK ?_
   refine zH rfl (zL rfl) rfl ?_
   refine zH rfl (zL rfl) rfl ?_
   refine zH rfl (qX ag35 rfl (zy6 1 rfl ((show RdN _ b5 0 q.cs from zx))) rfl) rfl ?_
   refine zT rfl (zb Tryz.call29 rfl rfl (by repeat (first | exact zR _ | apply zG 0 rfl | apply zG 1 rfl | apply zG 2 rfl | apply zG 3 rfl | apply zG 4 rfl | apply zG 5 rfl | apply zG 6 rfl | apply zG 7 rfl | apply zG 8 rfl | apply zG 9 rfl | apply zG 10 rfl | apply zG 11 rfl)) (byHandle_spec hW htb hH s hs16 q hq hP hnx hD)) rfl ?_
   rintro _ H' ⟨_, ⟨t1, hs1, k1, dp1, dc1, np1, nc1, b1, rfl, hB, hW1, htb1, hnx1, hH1, rfl⟩, hH⟩
   simp only [List.cons_append, List.nil_append, List.eraseIdx_cons_zero, List.eraseIdx_cons_succ, List.set_cons_zero, List.set_cons_succ] at hH
   subst hH
   refine zH rfl (zL rfl) rfl ?_
   refine zH rfl (zu rfl rfl) rfl ?_
   refine zH rfl (zu rfl rfl) rfl ?_
   refine zT rfl (qL z32) rfl ?_
   rintro _ _ ⟨b7, rfl, rfl⟩
   refine zo rfl (zm 0 qW rfl rfl rfl rfl rfl (zy1 rfl) (zg _)) rfl ?_
   rintro _ _ rfl
   simp only [List.set_cons_zero, List.set_cons_succ]
   refine zH rfl (zO rfl) rfl ?_
   refine zN ?_
   refine zI ?_
   refine qc (qn ⟨t1, hs1, k1, dp1, dc1, np1, nc1, b1, b7, ⟨hB, hW1, htb1, hnx1, hH1⟩, rfl, rfl⟩ ?_ ?_ ?_)
   ·exact (by repeat (first | exact zf _ | refine zS rfl ?_))
   ·exact (by repeat (first | exact zf _ | refine zS rfl ?_))
   ·exact (zJ 7 rfl (zJ 7 rfl (zJ 0 rfl (zJ 0 rfl (zJ 0 rfl (zJ 0 rfl (zJ 0 rfl (zJ 0 rfl (zJ 0 rfl (zY _))))))))))
  ·rintro Δ LL ⟨t1, hs1, k1, dp1, dc1, np1, nc1, b1, b7, ⟨hB, hW1, htb1, hnx1, hH1⟩, rfl, rfl⟩
   simp only [List.cons_append, List.nil_append]
   refine zM ?_
   refine zK ?_
   refine zH rfl (zL rfl) rfl ?_
   refine zN ?_
   refine zI ?_
   refine zq rfl (fun hc31 => ?_) (fun hc31 => ?_)
   ·skip
    refine zM ?_
    refine zK ?_
    refine zH rfl (qX qW rfl (zy6 2 rfl zx) rfl) rfl ?_
    refine zo rfl (zm 0 qW rfl rfl rfl rfl rfl (zy1 rfl) (zg _)) rfl ?_
    rintro _ _ rfl
    simp only [List.set_cons_zero, List.set_cons_succ]
    refine zN ?_
    refine zI ?_
    refine zi ?_
    refine zh ?_
    refine' zX (qg rfl (qB qW rfl (zy6 0 rfl zx) rfl)) ?_ ?_
    rotate_left 1
    exact ⟨t1, hs1, k1, dp1, dc1, np1, nc1, rfl, do_by hs16 (by rcases hB with h | h; exact h.2; exact absurd (hc31.symm.trans h.1) (by decide)), hW1, htb1, hnx1, hH1, rfl⟩
    exact (zJ 3 rfl (zJ 3 rfl (zJ 3 rfl (zJ 3 rfl (zJ 3 rfl (zJ 3 rfl (zY _)))))))
   ·skip
    obtain ⟨_, hnb, ht, hh⟩ : b1 = false ∧ ¬ byH q.kind ∧ t1 = t ∧ hs1 = hs := by
     rcases hB with h | h
     ·exact absurd (hc31.symm.trans h.1) (by decide)
     ·exact h
    obtain rfl : t = t1 := ht.symm
    obtain rfl : hs = hs1 := hh.symm
    have hdl := wf_dl2 hW
    refine zl ?_
    refine zI ?_
    refine zM ?_
    refine zM ?_
    refine zK ?_
    refine zH rfl (zP fa35_0 rfl) rfl ?_
    refine zH rfl (zW sc3 rfl (zy4 1 rfl (Rd.own rfl))) rfl ?_
    refine zH rfl (yP rfl rfl rfl) rfl ?_
    refine qi rfl rfl rfl (fun hg36 => ?_) (fun hg36 => ?_)
    ·replace hg36 := zy2 hg36
     refine zZ rfl rfl ?_
     refine zZ rfl rfl ?_
     refine zZ rfl rfl ?_
     refine zH rfl (zr rfl rfl) rfl ?_
     refine zN ?_
     refine zI ?_
     refine qG rfl ?_
     refine zM ?_
     refine zK ?_
     refine zT rfl (zb Tryz.call28 rfl rfl (by repeat (first | exact zR _ | apply zG 0 rfl | apply zG 1 rfl | apply zG 2 rfl | apply zG 3 rfl | apply zG 4 rfl | apply zG 5 rfl | apply zG 6 rfl | apply zG 7 rfl | apply zG 8 rfl | apply zG 9 rfl | apply zG 10 rfl | apply zG 11 rfl)) (qS 8)) rfl ?_
     rintro _ H' ⟨_, ⟨rfl, rfl⟩, hH⟩
     simp only [List.cons_append, List.nil_append, List.eraseIdx_cons_zero, List.eraseIdx_cons_succ, List.set_cons_zero, List.set_cons_succ] at hH
     subst hH
     first | refine qp (fun w F sw => qb (qw 8) sw) ?_ | refine qu (fun w F sw => qb (qw 8) sw) ?_
     refine zo rfl (zm 2 qW rfl rfl rfl rfl rfl (zy1 rfl) (zg _)) rfl ?_
     rintro _ _ rfl
     simp only [List.set_cons_zero, List.set_cons_succ]
     refine zN ?_
     refine zI ?_
     refine zi ?_
     refine zh ?_
     refine' zX (qg rfl (qB qW rfl (zy6 2 rfl zx) rfl)) ?_ ?_
     rotate_left 1
     exact ⟨t, hs, Rk.stat 8, none, 0, none, 0, (by first | rfl | (rw [← ye]; rfl)), (do_none hs16 hnb (by omega)), ⟨r, hW⟩, htb, by omega, hH, rfl⟩
     exact (zJ 0 rfl (zJ 0 rfl (zJ 5 rfl (zJ 5 rfl (zJ 5 rfl (zJ 5 rfl (zY _)))))))
    ·replace hg36 := zy3 hg36
     refine zH rfl (zP fa35_0 rfl) rfl ?_
     refine zH rfl (zW sc3 rfl (zy4 1 rfl (Rd.own rfl))) rfl ?_
     refine zH rfl (yd rfl rfl rfl) rfl ?_
     refine zH rfl (zr rfl rfl) rfl ?_
     refine zN ?_
     refine zI ?_
     refine zq rfl (fun hc40 => ?_) (fun hc40 => ?_)
     ·replace hc40 := zy2 hc40
      refine zM ?_
      refine zK ?_
      refine zT rfl (zb Tryz.call28 rfl rfl (by repeat (first | exact zR _ | apply zG 0 rfl | apply zG 1 rfl | apply zG 2 rfl | apply zG 3 rfl | apply zG 4 rfl | apply zG 5 rfl | apply zG 6 rfl | apply zG 7 rfl | apply zG 8 rfl | apply zG 9 rfl | apply zG 10 rfl | apply zG 11 rfl)) (qS 8)) rfl ?_
      rintro _ H' ⟨_, ⟨rfl, rfl⟩, hH⟩
      simp only [List.cons_append, List.nil_append, List.eraseIdx_cons_zero, List.eraseIdx_cons_succ, List.set_cons_zero, List.set_cons_succ] at hH
      subst hH
      first | refine qp (fun w F sw => qb (qw 8) sw) ?_ | refine qu (fun w F sw => qb (qw 8) sw) ?_
      refine zo rfl (zm 2 qW rfl rfl rfl rfl rfl (zy1 rfl) (zg _)) rfl ?_
      rintro _ _ rfl
      simp only [List.set_cons_zero, List.set_cons_succ]
      refine zN ?_
      refine zI ?_
      refine zi ?_
      refine zh ?_
      refine' zX (qg rfl (qB qW rfl (zy6 2 rfl zx) rfl)) ?_ ?_
      rotate_left 1
      exact ⟨t, hs, Rk.stat 8, none, 0, none, 0, (by first | rfl | (rw [← ye]; rfl)), (do_none hs16 hnb (by omega)), ⟨r, hW⟩, htb, by omega, hH, rfl⟩
      exact (zJ 0 rfl (zJ 0 rfl (zJ 5 rfl (zJ 5 rfl (zJ 5 rfl (zJ 5 rfl (zY _)))))))
     ·replace hc40 := zy3 hc40
      have h7 : ¬ (q.kind < 7 ∨ 18 < q.kind) := by omega
      refine zl ?_
      refine zI ?_
      refine zM ?_
      refine zM ?_
      refine zK ?_
      refine zH rfl (zP fa35_0 rfl) rfl ?_
      refine zH rfl (zW sc3 rfl (zy4 1 rfl (Rd.own rfl))) rfl ?_
      refine zH rfl (qQ rfl rfl rfl) rfl ?_
      refine qi rfl rfl rfl (fun hg45 => ?_) (fun hg45 => ?_)
      ·replace hg45 := zy2 hg45
       refine zH rfl (zP fa35_8 rfl) rfl ?_
       refine zH rfl (qX ag30 rfl (zy6 1 rfl (rdn_sub 7)) rfl) rfl ?_
       refine zT rfl (zb Tryz.call30 rfl rfl (by repeat (first | exact zR _ | apply zG 0 rfl | apply zG 1 rfl | apply zG 2 rfl | apply zG 3 rfl | apply zG 4 rfl | apply zG 5 rfl | apply zG 6 rfl | apply zG 7 rfl | apply zG 8 rfl | apply zG 9 rfl | apply zG 10 rfl | apply zG 11 rfl)) (right_spec q.a hq.a)) rfl ?_
       rintro _ H' ⟨_, ⟨rfl, rfl⟩, hH⟩
       simp only [List.cons_append, List.nil_append, List.eraseIdx_cons_zero, List.eraseIdx_cons_succ, List.set_cons_zero, List.set_cons_succ] at hH
       subst hH
       refine zH rfl (qy rfl rfl) rfl ?_
       refine zH rfl (zr rfl rfl) rfl ?_
       refine zN ?_
       refine zI ?_
       refine zq rfl (fun hc50 => ?_) (fun hc50 => ?_)
       ·simp only [Bool.and_eq_true, decide_eq_true_eq, Bool.not_eq_true', decide_eq_false_iff_not, bne_iff_ne, ne_eq] at hc50
        refine zM ?_
        refine zK ?_
        refine zT rfl (zb Tryz.call28 rfl rfl (by repeat (first | exact zR _ | apply zG 0 rfl | apply zG 1 rfl | apply zG 2 rfl | apply zG 3 rfl | apply zG 4 rfl | apply zG 5 rfl | apply zG 6 rfl | apply zG 7 rfl | apply zG 8 rfl | apply zG 9 rfl | apply zG 10 rfl | apply zG 11 rfl)) (qS 4)) rfl ?_
        rintro _ H' ⟨_, ⟨rfl, rfl⟩, hH⟩
        simp only [List.cons_append, List.nil_append, List.eraseIdx_cons_zero, List.eraseIdx_cons_succ, List.set_cons_zero, List.set_cons_succ] at hH
        subst hH
        first | refine qp (fun w F sw => qb (qw 4) sw) ?_ | refine qu (fun w F sw => qb (qw 4) sw) ?_
        refine zo rfl (zm 2 qW rfl rfl rfl rfl rfl (zy1 rfl) (zg _)) rfl ?_
        rintro _ _ rfl
        simp only [List.set_cons_zero, List.set_cons_succ]
        refine zN ?_
        refine zI ?_
        refine zi ?_
        refine zh ?_
        refine' zX (qg rfl (qB qW rfl (zy6 2 rfl zx) rfl)) ?_ ?_
        rotate_left 1
        exact ⟨t, hs, Rk.stat 4, none, 0, none, 0, (by first | rfl | (rw [← ye]; rfl)), (do_right hs16 hnb h7 (by omega) (by simp_all)), ⟨r, hW⟩, htb, by omega, hH, rfl⟩
        exact (zJ 0 rfl (zJ 0 rfl (zJ 5 rfl (zJ 5 rfl (zJ 5 rfl (zJ 5 rfl (zY _)))))))
       ·simp only [Bool.and_eq_false_iff, decide_eq_false_iff_not, Bool.not_eq_false', decide_eq_true_eq] at hc50
        refine zl ?_
        refine zI ?_
        refine zM ?_
        have hr14 : ¬ (q.kind = 14 ∧ q.a.right = false) := by rintro ⟨a1, a2⟩; first | omega | simp_all
        refine zK ?_
        refine zH rfl (zP fa35_1 rfl) rfl ?_
        refine zH rfl (zW sc9 rfl (zy4 1 rfl (Rd.own rfl))) rfl ?_
        refine zT rfl (zb Tryz.call31 rfl rfl (by repeat (first | exact zR _ | apply zG 0 rfl | apply zG 1 rfl | apply zG 2 rfl | apply zG 3 rfl | apply zG 4 rfl | apply zG 5 rfl | apply zG 6 rfl | apply zG 7 rfl | apply zG 8 rfl | apply zG 9 rfl | apply zG 10 rfl | apply zG 11 rfl)) (xb V hP q.path hq.path)) rfl ?_
        rintro _ H' ⟨_, ⟨_, ⟨p55, c55, rfl, rfl⟩, rfl⟩, hH⟩
        simp only [List.cons_append, List.nil_append, List.eraseIdx_cons_zero, List.eraseIdx_cons_succ, List.set_cons_zero, List.set_cons_succ] at hH
        subst hH
        have hfew := pSplit_few q.path
        have hlast := pSplit_last q.path
        have hall := pSplit_right q.path
        obtain ⟨pp, hpp⟩ : ∃ z, pSplit q.path = z := ⟨_, rfl⟩
        rw [hpp] at hfew hlast hall ⊢
        refine zH rfl (zL rfl) rfl ?_
        refine zH rfl (zu rfl rfl) rfl ?_
        refine zH rfl (zu rfl rfl) rfl ?_
        refine zH rfl (zO rfl) rfl ?_
        refine zH rfl (zO rfl) rfl ?_
        refine zN ?_
        refine zI ?_
        refine zM ?_
        refine zM ?_
        refine zK ?_
        refine zH rfl (zL rfl) rfl ?_
        refine zH rfl (q9 rfl rfl rfl) rfl ?_
        refine zN ?_
        refine zI ?_
        refine zq rfl (fun hc59 => ?_) (fun hc59 => ?_)
        ·replace hc59 := zy2 hc59
         refine zM ?_
         refine zK ?_
         refine zH rfl (zL rfl) rfl ?_
         refine zT rfl (zb Tryz.call32 rfl rfl (by repeat (first | exact zR _ | apply zG 0 rfl | apply zG 1 rfl | apply zG 2 rfl | apply zG 3 rfl | apply zG 4 rfl | apply zG 5 rfl | apply zG 6 rfl | apply zG 7 rfl | apply zG 8 rfl | apply zG 9 rfl | apply zG 10 rfl | apply zG 11 rfl)) (yz pp.2)) rfl ?_
         rintro _ H' ⟨_, ⟨rfl, rfl⟩, hH⟩
         simp only [List.cons_append, List.nil_append, List.eraseIdx_cons_zero, List.eraseIdx_cons_succ, List.set_cons_zero, List.set_cons_succ] at hH
         subst hH
         first | refine qp (fun w F sw => qb (xF pp.2) sw) ?_ | refine qu (fun w F sw => qb (xF pp.2) sw) ?_
         refine zo rfl (zm 4 qW rfl rfl rfl rfl rfl (zy1 rfl) (zg _)) rfl ?_
         rintro _ _ rfl
         simp only [List.set_cons_zero, List.set_cons_succ]
         refine zN ?_
         refine zI ?_
         refine zi ?_
         refine zh ?_
         refine' zX (qg rfl (qB qW rfl (zy6 4 rfl zx) rfl)) ?_ ?_
         rotate_left 1
         exact ⟨t, hs, ofK pp.2, none, 0, none, 0, (by first | rfl | (rw [← ye]; rfl)), (do_split hs16 hnb h7 hr14 hpp (by omega)), ⟨r, hW⟩, htb, by omega, hH, rfl⟩
         exact (zJ 0 rfl (zJ 0 rfl (zJ 7 rfl (zJ 7 rfl (zJ 7 rfl (zJ 1 rfl (zY _)))))))
        ·replace hc59 := zy3 hc59
         refine zl ?_
         refine zI ?_
         refine zM ?_
         refine zM ?_
         have hpe : pp.2 = 0 := by omega
         refine yN (fun w F s => row_caps 0 rfl s) ?_
         intro hpc
         refine q8 (L := [row 9 1 (.slice p55 pp.1.length c55) pp.1.length (txs pp.1), own b6 (.cells ((Rk.rep ⟨0, 0, [], [], [], At.zero⟩ none 0 none 0).cs).toArray 32 (0, 0)), own b5 (.cells (q.cs).toArray 35 (0, 0)), oMa mb tb hs, tree t, St (hs.map rowN), V]) (by repeat (first | exact zY _ | refine zJ 0 rfl ?_ | refine zJ 1 rfl ?_ | refine zJ 2 rfl ?_ | refine zJ 3 rfl ?_ | refine zJ 4 rfl ?_ | refine zJ 5 rfl ?_ | refine zJ 6 rfl ?_ | refine zJ 7 rfl ?_ | refine zJ 8 rfl ?_ | refine zJ 9 rfl ?_ | refine zJ 10 rfl ?_ | refine zJ 11 rfl ?_ | refine zJ 12 rfl ?_ | refine zJ 13 rfl ?_ | refine SubH.rown ?_)) ?_
         refine zK ?_
         refine zH rfl (zP fa35_0 rfl) rfl ?_
         refine zH rfl (zW sc3 rfl (zy4 2 rfl (Rd.own rfl))) rfl ?_
         refine zN ?_
         refine zI ?_
         refine qA ?_
         refine zM ?_
         refine zK ?_
         refine zH rfl (qQ rfl rfl (decide_eq_false (by omega))) rfl ?_
         refine zH rfl (zO rfl) rfl ?_
         refine zN ?_
         refine zI ?_
         refine qC rfl ?_
         refine zM ?_
         refine zK ?_
         refine zH rfl (qQ rfl rfl (decide_eq_false (by omega))) rfl ?_
         refine zH rfl (zO rfl) rfl ?_
         refine zN ?_
         refine zI ?_
         refine qC rfl ?_
         refine zM ?_
         refine zK ?_
         refine zH rfl (qQ rfl rfl (decide_eq_true (by omega))) rfl ?_
         refine zH rfl (zO rfl) rfl ?_
         refine zN ?_
         refine zI ?_
         refine qG rfl ?_
         refine zM ?_
         refine zK ?_
         refine zH rfl (zL rfl) rfl ?_
         refine zH rfl (zU rfl) rfl ?_
         refine zH rfl (zP yT rfl) rfl ?_
         refine zH rfl (zW sc51 rfl (zy4 3 rfl (Rd.own rfl))) rfl ?_
         refine zH rfl (zL rfl) rfl ?_
         refine zT rfl (zb Tryz.call34 rfl rfl (by repeat (first | exact zR _ | apply zG 0 rfl | apply zG 1 rfl | apply zG 2 rfl | apply zG 3 rfl | apply zG 4 rfl | apply zG 5 rfl | apply zG 6 rfl | apply zG 7 rfl | apply zG 8 rfl | apply zG 9 rfl | apply zG 10 rfl | apply zG 11 rfl)) (qf htb (make_spec (V := row 9 1 (.slice p55 pp.1.length c55) pp.1.length (txs pp.1)) hW hnx _ _ pp.1 Vw.row hpc hfew (by omega) true))) rfl ?_
         rintro _ H' ⟨_, ⟨t2, r2, i2, e2, rfl, hR2, hW2, rfl⟩, hH⟩
         simp only [List.cons_append, List.nil_append, List.eraseIdx_cons_zero, List.eraseIdx_cons_succ, List.set_cons_zero, List.set_cons_succ] at hH
         subst hH
         obtain ⟨hnx2, htb2⟩ := make_nx hR2
         have htb2 : t2.tb = tb := by rw [htb2, htb]
         refine zH rfl (zL rfl) rfl ?_
         refine zH rfl (zu rfl rfl) rfl ?_
         refine zH rfl (zu rfl rfl) rfl ?_
         refine zH rfl (zO rfl) rfl ?_
         refine zH rfl (zO rfl) rfl ?_
         refine zN ?_
         refine zI ?_
         refine yO 1022 (fun Δ LL => ∃ (t3 : Tr), ((∃ r3, Wf t3 r3) ∧ t3.tb = tb ∧ t3.next ≤ t.next + 1 ∧ (if e2 = 0 then ∃ e3, SetR t2 i2 (bareA q.a) t3 e3 else t3 = t2)) ∧ Δ = [] ∧ LL = [own b6 (.cells ((Rk.rep ⟨0, 0, [], [], [], At.zero⟩ none 0 none 0).cs).toArray 32 (0, 0)), own b5 (.cells (q.cs).toArray 35 (0, 0)), oMa mb tb hs, tree t3, St (hs.map rowN), V]) (zS (k := 6) rfl (zS (k := 12) rfl (zf _))) ?_ ?_
         ·refine zM ?_
          refine zK ?_
          refine zH rfl (zL rfl) rfl ?_
          refine zH rfl (qQ rfl rfl rfl) rfl ?_
          refine zN ?_
          refine zI ?_
          refine zq rfl (fun hc94 => ?_) (fun hc94 => ?_)
          ·replace hc94 := zy2 hc94
           refine q8 (L := [own b6 (.cells ((Rk.rep ⟨0, 0, [], [], [], At.zero⟩ none 0 none 0).cs).toArray 32 (0, 0)), own b5 (.cells (q.cs).toArray 35 (0, 0)), oMa mb tb hs, tree t2, St (hs.map rowN), V]) (by repeat (first | exact zY _ | refine zJ 0 rfl ?_ | refine zJ 1 rfl ?_ | refine zJ 2 rfl ?_ | refine zJ 3 rfl ?_ | refine zJ 4 rfl ?_ | refine zJ 5 rfl ?_ | refine zJ 6 rfl ?_ | refine zJ 7 rfl ?_ | refine zJ 8 rfl ?_ | refine zJ 9 rfl ?_ | refine zJ 10 rfl ?_ | refine zJ 11 rfl ?_ | refine zJ 12 rfl ?_ | refine zJ 13 rfl ?_ | refine SubH.rown ?_)) ?_
           refine qZ 9 (by kernel_rfl) (zG 1 rfl (zG 1 rfl (zR _))) ?_
           refine zRO (i := 0) (by kernel_rfl) rfl rfl (zL rfl) rfl ?_
           refine zRO (i := 1) (by kernel_rfl) rfl rfl (zU rfl) rfl ?_
           refine zRO (i := 2) (by kernel_rfl) rfl rfl (zP yT rfl) rfl ?_
           refine zRO (i := 3) (by kernel_rfl) rfl rfl (zW sc51 rfl (zy4 1 rfl (Rd.own rfl))) rfl ?_
           refine zRO (i := 4) (by kernel_rfl) rfl rfl (zL rfl) rfl ?_
           refine zRO (i := 5) (by kernel_rfl) rfl rfl (zP fa35_8 rfl) rfl ?_
           refine zRO (i := 6) (by kernel_rfl) rfl rfl (qX ag30 rfl (zy6 0 rfl (rdn_sub 7)) rfl) rfl ?_
           refine qM (i := 7) (by kernel_rfl) rfl rfl (zb Tryz.call36 rfl rfl (by repeat (first | exact zR _ | apply zG 0 rfl | apply zG 1 rfl | apply zG 2 rfl | apply zG 3 rfl | apply zG 4 rfl | apply zG 5 rfl | apply zG 6 rfl | apply zG 7 rfl | apply zG 8 rfl | apply zG 9 rfl | apply zG 10 rfl | apply zG 11 rfl)) (fbare_spec q.a hq.a)) rfl ?_
           rintro _ H' ⟨_, ⟨rfl, rfl⟩, hH⟩
           simp only [List.cons_append, List.nil_append, List.eraseIdx_cons_zero, List.eraseIdx_cons_succ, List.set_cons_zero, List.set_cons_succ] at hH
           subst hH
           refine qM (i := 8) (by kernel_rfl) rfl rfl (zb Tryz.call35 rfl rfl (by repeat (first | exact zR _ | apply zG 0 rfl | apply zG 1 rfl | apply zG 2 rfl | apply zG 3 rfl | apply zG 4 rfl | apply zG 5 rfl | apply zG 6 rfl | apply zG 7 rfl | apply zG 8 rfl | apply zG 9 rfl | apply zG 10 rfl | apply zG 11 rfl)) (qf htb2 (set_spec hW2 i2 (bareA q.a) (bare_ok hq.a)))) rfl ?_
           rintro _ H' ⟨_, ⟨t3, e3, rfl, hR3, rfl⟩, hH⟩
           simp only [List.cons_append, List.nil_append, List.eraseIdx_cons_zero, List.eraseIdx_cons_succ, List.set_cons_zero, List.set_cons_succ] at hH
           subst hH
           obtain ⟨hW3, hnx3, htb3, _⟩ := set_wf hW2 (bare_ok hq.a) hR3
           have htb3 : t3.tb = tb := by rw [htb3, htb2]
           refine qm (by kernel_rfl) ?_
           refine zI ?_
           refine qc (qn ⟨t3, ⟨hW3, htb3, by omega, by rw [if_pos (by omega)]; exact ⟨e3, hR3⟩⟩, rfl, rfl⟩ ?_ ?_ ?_)
           ·exact (by repeat (first | exact zf _ | refine zS rfl ?_))
           ·exact (by repeat (first | exact zf _ | refine zS rfl ?_))
           ·exact (zJ 3 rfl (zJ 0 rfl (zJ 0 rfl (zJ 0 rfl (zJ 0 rfl (zJ 0 rfl (zY _)))))))
          ·replace hc94 := zy3 hc94
           refine zl ?_
           refine zI ?_
           refine qc (qn ⟨t2, ⟨⟨r2, hW2⟩, htb2, by omega, by rw [if_neg (by omega)]⟩, rfl, rfl⟩ ?_ ?_ ?_)
           ·exact (by repeat (first | exact zf _ | refine zS rfl ?_))
           ·exact (by repeat (first | exact zf _ | refine zS rfl ?_))
           ·exact (zJ 2 rfl (zJ 2 rfl (zJ 2 rfl (zJ 0 rfl (zJ 1 rfl (zJ 1 rfl (zY _)))))))
         ·rintro Δ LL ⟨t3, ⟨hW3, htb3, hnx3, hO3⟩, rfl, rfl⟩
          simp only [List.cons_append, List.nil_append]
          refine zM ?_
          refine zK ?_
          refine zH rfl (zL rfl) rfl ?_
          refine zT rfl (zb Tryz.call32 rfl rfl (by repeat (first | exact zR _ | apply zG 0 rfl | apply zG 1 rfl | apply zG 2 rfl | apply zG 3 rfl | apply zG 4 rfl | apply zG 5 rfl | apply zG 6 rfl | apply zG 7 rfl | apply zG 8 rfl | apply zG 9 rfl | apply zG 10 rfl | apply zG 11 rfl)) (yz e2)) rfl ?_
          rintro _ H' ⟨_, ⟨rfl, rfl⟩, hH⟩
          simp only [List.cons_append, List.nil_append, List.eraseIdx_cons_zero, List.eraseIdx_cons_succ, List.set_cons_zero, List.set_cons_succ] at hH
          subst hH
          first | refine qp (fun w F sw => qb (xF e2) sw) ?_ | refine qu (fun w F sw => qb (xF e2) sw) ?_
          refine zo rfl (zm 2 qW rfl rfl rfl rfl rfl (zy1 rfl) (zg _)) rfl ?_
          rintro _ _ rfl
          simp only [List.set_cons_zero, List.set_cons_succ]
          refine zN ?_
          refine zI ?_
          refine zi ?_
          refine zn ?_
          refine zh ?_
          refine' zX (qg rfl (qB qW rfl (zy6 2 rfl zx) rfl)) ?_ ?_
          rotate_left 1
          exact ⟨t3, hs, ofK e2, none, 0, none, 0, (by first | rfl | (rw [← ye]; rfl)), (do_path hs16 hnb h7 hr14 hpp hpe (by unfold pathR; rw [if_neg (by omega), if_neg (by omega), if_pos (by omega)]; exact ⟨t2, r2, i2, e2, hR2, rfl, hO3⟩)), hW3, htb3, hnx3, hH, rfl⟩
          exact (zJ 0 rfl (zJ 0 rfl (zJ 2 rfl (zJ 2 rfl (zJ 2 rfl (zJ 2 rfl (zY _)))))))
      ·replace hg45 := zy3 hg45
       refine zZ rfl rfl ?_
       refine zZ rfl rfl ?_
       refine zZ rfl rfl ?_
       refine zZ rfl rfl ?_
       refine zH rfl (zr rfl rfl) rfl ?_
       refine zN ?_
       refine zI ?_
       refine qC rfl ?_
       refine zl ?_
       refine zI ?_
       refine zM ?_
       have hr14 : ¬ (q.kind = 14 ∧ q.a.right = false) := by rintro ⟨a1, a2⟩; first | omega | simp_all
       refine zK ?_
       refine zH rfl (zP fa35_1 rfl) rfl ?_
       refine zH rfl (zW sc9 rfl (zy4 1 rfl (Rd.own rfl))) rfl ?_
       refine zT rfl (zb Tryz.call31 rfl rfl (by repeat (first | exact zR _ | apply zG 0 rfl | apply zG 1 rfl | apply zG 2 rfl | apply zG 3 rfl | apply zG 4 rfl | apply zG 5 rfl | apply zG 6 rfl | apply zG 7 rfl | apply zG 8 rfl | apply zG 9 rfl | apply zG 10 rfl | apply zG 11 rfl)) (xb V hP q.path hq.path)) rfl ?_
       rintro _ H' ⟨_, ⟨_, ⟨p55, c55, rfl, rfl⟩, rfl⟩, hH⟩
       simp only [List.cons_append, List.nil_append, List.eraseIdx_cons_zero, List.eraseIdx_cons_succ, List.set_cons_zero, List.set_cons_succ] at hH
       subst hH
       have hfew := pSplit_few q.path
       have hlast := pSplit_last q.path
       have hall := pSplit_right q.path
       obtain ⟨pp, hpp⟩ : ∃ z, pSplit q.path = z := ⟨_, rfl⟩
       rw [hpp] at hfew hlast hall ⊢
       refine zH rfl (zL rfl) rfl ?_
       refine zH rfl (zu rfl rfl) rfl ?_
       refine zH rfl (zu rfl rfl) rfl ?_
       refine zH rfl (zO rfl) rfl ?_
       refine zH rfl (zO rfl) rfl ?_
       refine zN ?_
       refine zI ?_
       refine zM ?_
       refine zM ?_
       refine zK ?_
       refine zH rfl (zL rfl) rfl ?_
       refine zH rfl (q9 rfl rfl rfl) rfl ?_
       refine zN ?_
       refine zI ?_
       refine zq rfl (fun hc59 => ?_) (fun hc59 => ?_)
       ·replace hc59 := zy2 hc59
        refine zM ?_
        refine zK ?_
        refine zH rfl (zL rfl) rfl ?_
        refine zT rfl (zb Tryz.call32 rfl rfl (by repeat (first | exact zR _ | apply zG 0 rfl | apply zG 1 rfl | apply zG 2 rfl | apply zG 3 rfl | apply zG 4 rfl | apply zG 5 rfl | apply zG 6 rfl | apply zG 7 rfl | apply zG 8 rfl | apply zG 9 rfl | apply zG 10 rfl | apply zG 11 rfl)) (yz pp.2)) rfl ?_
        rintro _ H' ⟨_, ⟨rfl, rfl⟩, hH⟩
        simp only [List.cons_append, List.nil_append, List.eraseIdx_cons_zero, List.eraseIdx_cons_succ, List.set_cons_zero, List.set_cons_succ] at hH
        subst hH
        first | refine qp (fun w F sw => qb (xF pp.2) sw) ?_ | refine qu (fun w F sw => qb (xF pp.2) sw) ?_
        refine zo rfl (zm 4 qW rfl rfl rfl rfl rfl (zy1 rfl) (zg _)) rfl ?_
        rintro _ _ rfl
        simp only [List.set_cons_zero, List.set_cons_succ]
        refine zN ?_
        refine zI ?_
        refine zi ?_
        refine zh ?_
        refine' zX (qg rfl (qB qW rfl (zy6 4 rfl zx) rfl)) ?_ ?_
        rotate_left 1
        exact ⟨t, hs, ofK pp.2, none, 0, none, 0, (by first | rfl | (rw [← ye]; rfl)), (do_split hs16 hnb h7 hr14 hpp (by omega)), ⟨r, hW⟩, htb, by omega, hH, rfl⟩
        exact (zJ 0 rfl (zJ 0 rfl (zJ 7 rfl (zJ 7 rfl (zJ 7 rfl (zJ 1 rfl (zY _)))))))
       ·replace hc59 := zy3 hc59
        refine zl ?_
        refine zI ?_
        refine zM ?_
        refine zM ?_
        have hpe : pp.2 = 0 := by omega
        refine yN (fun w F s => row_caps 0 rfl s) ?_
        intro hpc
        refine q8 (L := [row 9 1 (.slice p55 pp.1.length c55) pp.1.length (txs pp.1), own b6 (.cells ((Rk.rep ⟨0, 0, [], [], [], At.zero⟩ none 0 none 0).cs).toArray 32 (0, 0)), own b5 (.cells (q.cs).toArray 35 (0, 0)), oMa mb tb hs, tree t, St (hs.map rowN), V]) (by repeat (first | exact zY _ | refine zJ 0 rfl ?_ | refine zJ 1 rfl ?_ | refine zJ 2 rfl ?_ | refine zJ 3 rfl ?_ | refine zJ 4 rfl ?_ | refine zJ 5 rfl ?_ | refine zJ 6 rfl ?_ | refine zJ 7 rfl ?_ | refine zJ 8 rfl ?_ | refine zJ 9 rfl ?_ | refine zJ 10 rfl ?_ | refine zJ 11 rfl ?_ | refine zJ 12 rfl ?_ | refine zJ 13 rfl ?_ | refine SubH.rown ?_)) ?_
        refine zK ?_
        refine zH rfl (zP fa35_0 rfl) rfl ?_
        refine zH rfl (zW sc3 rfl (zy4 2 rfl (Rd.own rfl))) rfl ?_
        refine zN ?_
        refine zI ?_
        refine qA ?_
        refine zM ?_
        refine zK ?_
        refine zH rfl (qQ rfl rfl rfl) rfl ?_
        refine zH rfl (zO rfl) rfl ?_
        refine zN ?_
        refine zI ?_
        refine zq rfl (fun hc64 => ?_) (fun hc64 => ?_)
        ·replace hc64 := zy2 hc64
         refine zM ?_
         refine zK ?_
         refine zH rfl (zL rfl) rfl ?_
         refine zH rfl (zU rfl) rfl ?_
         refine zH rfl (zP yT rfl) rfl ?_
         refine zH rfl (zW sc51 rfl (zy4 3 rfl (Rd.own rfl))) rfl ?_
         refine zH rfl (zL rfl) rfl ?_
         refine zT rfl (zb Tryz.call33 rfl rfl (by repeat (first | exact zR _ | apply zG 0 rfl | apply zG 1 rfl | apply zG 2 rfl | apply zG 3 rfl | apply zG 4 rfl | apply zG 5 rfl | apply zG 6 rfl | apply zG 7 rfl | apply zG 8 rfl | apply zG 9 rfl | apply zG 10 rfl | apply zG 11 rfl)) (qf htb (remove_spec (V := row 9 1 (.slice p55 pp.1.length c55) pp.1.length (txs pp.1)) hW _ _ pp.1 Vw.row hpc hfew false))) rfl ?_
         rintro _ H' ⟨_, ⟨t2, r2, e2, rfl, hR2, hW2, htb2, hnx2, rfl⟩, hH⟩
         simp only [List.cons_append, List.nil_append, List.eraseIdx_cons_zero, List.eraseIdx_cons_succ, List.set_cons_zero, List.set_cons_succ] at hH
         subst hH
         refine zT rfl (zb Tryz.call32 rfl rfl (by repeat (first | exact zR _ | apply zG 0 rfl | apply zG 1 rfl | apply zG 2 rfl | apply zG 3 rfl | apply zG 4 rfl | apply zG 5 rfl | apply zG 6 rfl | apply zG 7 rfl | apply zG 8 rfl | apply zG 9 rfl | apply zG 10 rfl | apply zG 11 rfl)) (yz e2)) rfl ?_
         rintro _ H' ⟨_, ⟨rfl, rfl⟩, hH⟩
         simp only [List.cons_append, List.nil_append, List.eraseIdx_cons_zero, List.eraseIdx_cons_succ, List.set_cons_zero, List.set_cons_succ] at hH
         subst hH
         first | refine qp (fun w F sw => qb (xF e2) sw) ?_ | refine qu (fun w F sw => qb (xF e2) sw) ?_
         refine zo rfl (zm 4 qW rfl rfl rfl rfl rfl (zy1 rfl) (zg _)) rfl ?_
         rintro _ _ rfl
         simp only [List.set_cons_zero, List.set_cons_succ]
         refine zN ?_
         refine zI ?_
         refine zi ?_
         refine zn ?_
         refine zh ?_
         refine' zX (qg rfl (qB qW rfl (zy6 4 rfl zx) rfl)) ?_ ?_
         rotate_left 1
         exact ⟨t2, hs, ofK e2, none, 0, none, 0, (by first | rfl | (rw [← ye]; rfl)), (do_path hs16 hnb h7 hr14 hpp hpe (by unfold pathR; rw [if_pos (by omega)]; exact ⟨r2, e2, hR2, rfl⟩)), ⟨r2, hW2⟩, htb2.trans htb, by omega, hH, rfl⟩
         exact (zJ 0 rfl (zJ 0 rfl (zJ 4 rfl (zJ 0 rfl (zJ 3 rfl (zJ 3 rfl (zY _)))))))
        ·replace hc64 := zy3 hc64
         refine zM ?_
         refine zK ?_
         refine zH rfl (qQ rfl rfl rfl) rfl ?_
         refine zH rfl (zO rfl) rfl ?_
         refine zN ?_
         refine zI ?_
         refine zq rfl (fun hc73 => ?_) (fun hc73 => ?_)
         ·replace hc73 := zy2 hc73
          refine zM ?_
          refine zK ?_
          refine zH rfl (zL rfl) rfl ?_
          refine zH rfl (zU rfl) rfl ?_
          refine zH rfl (zP yT rfl) rfl ?_
          refine zH rfl (zW sc51 rfl (zy4 3 rfl (Rd.own rfl))) rfl ?_
          refine zH rfl (zL rfl) rfl ?_
          refine zT rfl (zb Tryz.call33 rfl rfl (by repeat (first | exact zR _ | apply zG 0 rfl | apply zG 1 rfl | apply zG 2 rfl | apply zG 3 rfl | apply zG 4 rfl | apply zG 5 rfl | apply zG 6 rfl | apply zG 7 rfl | apply zG 8 rfl | apply zG 9 rfl | apply zG 10 rfl | apply zG 11 rfl)) (qf htb (remove_spec (V := row 9 1 (.slice p55 pp.1.length c55) pp.1.length (txs pp.1)) hW _ _ pp.1 Vw.row hpc hfew true))) rfl ?_
          rintro _ H' ⟨_, ⟨t2, r2, e2, rfl, hR2, hW2, htb2, hnx2, rfl⟩, hH⟩
          simp only [List.cons_append, List.nil_append, List.eraseIdx_cons_zero, List.eraseIdx_cons_succ, List.set_cons_zero, List.set_cons_succ] at hH
          subst hH
          refine zT rfl (zb Tryz.call32 rfl rfl (by repeat (first | exact zR _ | apply zG 0 rfl | apply zG 1 rfl | apply zG 2 rfl | apply zG 3 rfl | apply zG 4 rfl | apply zG 5 rfl | apply zG 6 rfl | apply zG 7 rfl | apply zG 8 rfl | apply zG 9 rfl | apply zG 10 rfl | apply zG 11 rfl)) (yz e2)) rfl ?_
          rintro _ H' ⟨_, ⟨rfl, rfl⟩, hH⟩
          simp only [List.cons_append, List.nil_append, List.eraseIdx_cons_zero, List.eraseIdx_cons_succ, List.set_cons_zero, List.set_cons_succ] at hH
          subst hH
          first | refine qp (fun w F sw => qb (xF e2) sw) ?_ | refine qu (fun w F sw => qb (xF e2) sw) ?_
          refine zo rfl (zm 4 qW rfl rfl rfl rfl rfl (zy1 rfl) (zg _)) rfl ?_
          rintro _ _ rfl
          simp only [List.set_cons_zero, List.set_cons_succ]
          refine zN ?_
          refine zI ?_
          refine zi ?_
          refine zn ?_
          refine zh ?_
          refine' zX (qg rfl (qB qW rfl (zy6 4 rfl zx) rfl)) ?_ ?_
          rotate_left 1
          exact ⟨t2, hs, ofK e2, none, 0, none, 0, (by first | rfl | (rw [← ye]; rfl)), (do_path hs16 hnb h7 hr14 hpp hpe (by unfold pathR; rw [if_neg (by omega), if_pos (by omega)]; exact ⟨r2, e2, hR2, rfl⟩)), ⟨r2, hW2⟩, htb2.trans htb, by omega, hH, rfl⟩
          exact (zJ 0 rfl (zJ 0 rfl (zJ 4 rfl (zJ 0 rfl (zJ 3 rfl (zJ 3 rfl (zY _)))))))
         ·replace hc73 := zy3 hc73
          refine zM ?_
          refine zK ?_
          refine zH rfl (qQ rfl rfl (decide_eq_false (by omega))) rfl ?_
          refine zH rfl (zO rfl) rfl ?_
          refine zN ?_
          refine zI ?_
          refine qC rfl ?_
          refine zM ?_
          refine zK ?_
          refine zH rfl (qQ rfl rfl rfl) rfl ?_
          refine zH rfl (zO rfl) rfl ?_
          refine zN ?_
          refine zI ?_
          refine zq rfl (fun hc106 => ?_) (fun hc106 => ?_)
          ·replace hc106 := zy2 hc106
           refine zM ?_
           refine zK ?_
           refine zH rfl (zP fa35_2 rfl) rfl ?_
           refine zH rfl (zW sc9 rfl (zy4 2 rfl (Rd.own rfl))) rfl ?_
           refine zT rfl (zb Tryz.call31 rfl rfl (by repeat (first | exact zR _ | apply zG 0 rfl | apply zG 1 rfl | apply zG 2 rfl | apply zG 3 rfl | apply zG 4 rfl | apply zG 5 rfl | apply zG 6 rfl | apply zG 7 rfl | apply zG 8 rfl | apply zG 9 rfl | apply zG 10 rfl | apply zG 11 rfl)) (xb V hP q.dest hq.dest)) rfl ?_
           rintro _ H' ⟨_, ⟨_, ⟨p111, c111, rfl, rfl⟩, rfl⟩, hH⟩
           simp only [List.cons_append, List.nil_append, List.eraseIdx_cons_zero, List.eraseIdx_cons_succ, List.set_cons_zero, List.set_cons_succ] at hH
           subst hH
           have hfew2 := pSplit_few q.dest
           have hlast2 := pSplit_last q.dest
           obtain ⟨p2, hp2⟩ : ∃ z, pSplit q.dest = z := ⟨_, rfl⟩
           rw [hp2] at hfew2 hlast2 ⊢
           refine zH rfl (zL rfl) rfl ?_
           refine zH rfl (zu rfl rfl) rfl ?_
           refine zH rfl (zu rfl rfl) rfl ?_
           refine zH rfl (zO rfl) rfl ?_
           refine zH rfl (zO rfl) rfl ?_
           refine zN ?_
           refine zI ?_
           refine zM ?_
           refine zM ?_
           refine zK ?_
           refine zH rfl (zL rfl) rfl ?_
           refine zH rfl (q9 rfl rfl rfl) rfl ?_
           refine zN ?_
           refine zI ?_
           refine zq rfl (fun hc115 => ?_) (fun hc115 => ?_)
           ·replace hc115 := zy2 hc115
            refine zM ?_
            refine zK ?_
            refine zH rfl (zL rfl) rfl ?_
            refine zT rfl (zb Tryz.call32 rfl rfl (by repeat (first | exact zR _ | apply zG 0 rfl | apply zG 1 rfl | apply zG 2 rfl | apply zG 3 rfl | apply zG 4 rfl | apply zG 5 rfl | apply zG 6 rfl | apply zG 7 rfl | apply zG 8 rfl | apply zG 9 rfl | apply zG 10 rfl | apply zG 11 rfl)) (yz p2.2)) rfl ?_
            rintro _ H' ⟨_, ⟨rfl, rfl⟩, hH⟩
            simp only [List.cons_append, List.nil_append, List.eraseIdx_cons_zero, List.eraseIdx_cons_succ, List.set_cons_zero, List.set_cons_succ] at hH
            subst hH
            first | refine qp (fun w F sw => qb (xF p2.2) sw) ?_ | refine qu (fun w F sw => qb (xF p2.2) sw) ?_
            refine zo rfl (zm 5 qW rfl rfl rfl rfl rfl (zy1 rfl) (zg _)) rfl ?_
            rintro _ _ rfl
            simp only [List.set_cons_zero, List.set_cons_succ]
            refine zN ?_
            refine zI ?_
            refine zi ?_
            refine zh ?_
            refine zn ?_
            refine zh ?_
            refine' zX (qg rfl (qB qW rfl (zy6 5 rfl zx) rfl)) ?_ ?_
            rotate_left 1
            exact ⟨t, hs, ofK p2.2, none, 0, none, 0, (by first | rfl | (rw [← ye]; rfl)), (do_path hs16 hnb h7 hr14 hpp hpe (by unfold pathR; rw [if_neg (by omega), if_neg (by omega), if_neg (by omega), if_pos (by omega)]; rw [hp2, if_pos (by omega)]; exact ⟨rfl, rfl⟩)), ⟨r, hW⟩, htb, by omega, hH, rfl⟩
            exact (zJ 0 rfl (zJ 0 rfl (zJ 5 rfl (zJ 5 rfl (zJ 5 rfl (zJ 1 rfl (zY _)))))))
           ·replace hc115 := zy3 hc115
            refine zl ?_
            refine zI ?_
            refine zM ?_
            refine yN (fun w F s => row_caps 0 rfl s) ?_
            intro hpc2
            refine zK ?_
            refine zH rfl (zL rfl) rfl ?_
            refine zH rfl (zU rfl) rfl ?_
            refine zH rfl (zP yT rfl) rfl ?_
            refine zH rfl (zW sc51 rfl (zy4 5 rfl (Rd.own rfl))) rfl ?_
            refine zH rfl (zL rfl) rfl ?_
            refine zH rfl (zL rfl) rfl ?_
            refine zT rfl (zy (Pre := [_]) Tryz.call37 rfl rfl (by repeat (first | exact zR _ | apply zG 0 rfl | apply zG 1 rfl | apply zG 2 rfl | apply zG 3 rfl | apply zG 4 rfl | apply zG 5 rfl | apply zG 6 rfl | apply zG 7 rfl | apply zG 8 rfl | apply zG 9 rfl | apply zG 10 rfl | apply zG 11 rfl)) (qf htb (frenK_spec hW _ _ pp.1 (zy5 2 rfl Vw.row) hpc hfew _ _ p2.1 (zy5 0 rfl Vw.row) hpc2 hfew2 (by omega)))) rfl ?_
            rintro _ H' ⟨_, ⟨t2, r2, e2, rfl, hR2, hW2, htb2, hnx2, rfl⟩, hH⟩
            simp only [List.cons_append, List.nil_append, List.eraseIdx_cons_zero, List.eraseIdx_cons_succ, List.set_cons_zero, List.set_cons_succ] at hH
            subst hH
            refine zT rfl (zb Tryz.call32 rfl rfl (by repeat (first | exact zR _ | apply zG 0 rfl | apply zG 1 rfl | apply zG 2 rfl | apply zG 3 rfl | apply zG 4 rfl | apply zG 5 rfl | apply zG 6 rfl | apply zG 7 rfl | apply zG 8 rfl | apply zG 9 rfl | apply zG 10 rfl | apply zG 11 rfl)) (yz e2)) rfl ?_
            rintro _ H' ⟨_, ⟨rfl, rfl⟩, hH⟩
            simp only [List.cons_append, List.nil_append, List.eraseIdx_cons_zero, List.eraseIdx_cons_succ, List.set_cons_zero, List.set_cons_succ] at hH
            subst hH
            first | refine qp (fun w F sw => qb (xF e2) sw) ?_ | refine qu (fun w F sw => qb (xF e2) sw) ?_
            refine zo rfl (zm 6 qW rfl rfl rfl rfl rfl (zy1 rfl) (zg _)) rfl ?_
            rintro _ _ rfl
            simp only [List.set_cons_zero, List.set_cons_succ]
            refine zN ?_
            refine zI ?_
            refine zi ?_
            refine zn ?_
            refine zh ?_
            refine' zX (qg rfl (qB qW rfl (zy6 6 rfl zx) rfl)) ?_ ?_
            rotate_left 1
            exact ⟨t2, hs, ofK e2, none, 0, none, 0, (by first | rfl | (rw [← ye]; rfl)), (do_path hs16 hnb h7 hr14 hpp hpe (by unfold pathR; rw [if_neg (by omega), if_neg (by omega), if_neg (by omega), if_pos (by omega)]; rw [hp2, if_neg (by omega)]; exact ⟨r2, e2, hR2, rfl⟩)), ⟨r2, hW2⟩, htb2.trans htb, by omega, hH, rfl⟩
            exact (zJ 0 rfl (zJ 0 rfl (zJ 6 rfl (zJ 0 rfl (zJ 5 rfl (zJ 1 rfl (zY _)))))))
          ·replace hc106 := zy3 hc106
           refine zM ?_
           refine zK ?_
           refine zH rfl (qQ rfl rfl rfl) rfl ?_
           refine zH rfl (zO rfl) rfl ?_
           refine zN ?_
           refine zI ?_
           refine zq rfl (fun hc126 => ?_) (fun hc126 => ?_)
           ·replace hc126 := zy2 hc126
            refine zM ?_
            refine zK ?_
            refine zH rfl (zL rfl) rfl ?_
            refine zT rfl (zy (Pre := []) Tryz.call38 rfl rfl (zR _) (ptJoin_spec _ _ _ pp.1 (zy5 0 rfl Vw.row) hpc (by omega) (fun x hx => Nat.le_trans (ptOk_30 (hall x hx)) (by decide)))) rfl ?_
            rintro _ H' ⟨_, ⟨rfl, rfl⟩, hH⟩
            simp only [List.cons_append, List.nil_append, List.eraseIdx_cons_zero, List.eraseIdx_cons_succ, List.set_cons_zero, List.set_cons_succ] at hH
            subst hH
            refine zH rfl (qY rfl (qK (cs := Nm.cs ⟨pJoin pp.1, At.zero⟩) st87 rfl)) rfl ?_
            refine zT rfl (eff_lit sl26 rfl (sbld (cs := flat Nm.cs [⟨pJoin pp.1, At.zero⟩]) [(.string ByteArray.empty), (.int .u32 0), (.int .u64 0), (.int .u32 0), (.int .u32 0), (.int .u32 0), (.int .u32 0), (.int .u32 0)] sl26 (by decide) (by kernel_rfl) rfl) rfl (by decide)) rfl ?_
            rintro _ _ ⟨b131, rfl, rfl⟩
            first | refine qp (fun w F sw => rep_data (l := []) rfl sw) ?_ | refine qu (fun w F sw => rep_data (l := []) rfl sw) ?_
            refine zH rfl (qY rfl (qK (cs := (Rk.rep ⟨4, 0, [], [], [⟨pJoin pp.1, At.zero⟩], At.zero⟩ none 0 (some ⟨b131, 0, none⟩) 1).cs) st32 rfl)) rfl ?_
            refine zo rfl (zm 3 qW rfl rfl rfl rfl rfl (zy1 rfl) (zg _)) rfl ?_
            rintro _ _ rfl
            simp only [List.set_cons_zero, List.set_cons_succ]
            refine zN ?_
            refine zI ?_
            refine zi ?_
            refine zn ?_
            refine zh ?_
            refine' zX (qg rfl (qB qW rfl (zy6 3 rfl zx) rfl)) ?_ ?_
            rotate_left 1
            exact ⟨t, hs, ⟨4, 0, [], [], [⟨pJoin pp.1, At.zero⟩], At.zero⟩, none, 0, some ⟨b131, 0, none⟩, 1, rfl, (do_path hs16 hnb h7 hr14 hpp hpe (by unfold pathR; rw [if_neg (by omega), if_neg (by omega), if_neg (by omega), if_neg (by omega), if_pos (by omega)]; exact ⟨rfl, rfl⟩)), ⟨r, hW⟩, htb, by omega, hH, rfl⟩
            exact (zJ 0 rfl (zJ 0 rfl (zJ 3 rfl (zJ 3 rfl (zJ 3 rfl (zJ 3 rfl (zY _)))))))
           ·replace hc126 := zy3 hc126
            refine zM ?_
            refine zK ?_
            refine zH rfl (qQ rfl rfl rfl) rfl ?_
            refine zH rfl (zO rfl) rfl ?_
            refine zN ?_
            refine zI ?_
            refine zq rfl (fun hc133 => ?_) (fun hc133 => ?_)
            ·replace hc133 := zy2 hc133
             refine zM ?_
             refine zK ?_
             refine zH rfl (zL rfl) rfl ?_
             refine zH rfl (zU rfl) rfl ?_
             refine zH rfl (zP yT rfl) rfl ?_
             refine zH rfl (zW sc51 rfl (zy4 3 rfl (Rd.own rfl))) rfl ?_
             refine zH rfl (zL rfl) rfl ?_
             refine zT rfl (zy (Pre := []) Tryz.call39 rfl rfl (zR _) (qf htb (look_spec (Tv.pick 4 rfl (qh t)) hW _ _ pp.1 (zy5 0 rfl Vw.row) hfew))) rfl ?_
             rintro _ H' ⟨_, ⟨rfl, rfl⟩, hH⟩
             simp only [List.cons_append, List.nil_append, List.eraseIdx_cons_zero, List.eraseIdx_cons_succ, List.set_cons_zero, List.set_cons_succ] at hH
             subst hH
             obtain ⟨⟨id3, e3⟩, hz3⟩ : ∃ z : Int × Int, lookO (fnd t.ns r pp.1) = z := ⟨_, rfl⟩
             rw [hz3]
             dsimp only
             refine zH rfl (zL rfl) rfl ?_
             refine zH rfl (zu rfl rfl) rfl ?_
             refine zH rfl (zu rfl rfl) rfl ?_
             refine zH rfl (zO rfl) rfl ?_
             refine zH rfl (zO rfl) rfl ?_
             refine zN ?_
             refine zI ?_
             refine yO 1034 (fun Δ LL => ∃ (t3 : Tr) (e4 : Int), ((∃ r3, Wf t3 r3) ∧ t3.tb = tb ∧ t3.next ≤ t.next + 1 ∧ (if e3 = 0 then SetR t id3 q.a t3 e4 else t3 = t ∧ e4 = e3)) ∧ Δ = [(16, .int .i64 e4)] ∧ LL = [own b6 (.cells ((Rk.rep ⟨0, 0, [], [], [], At.zero⟩ none 0 none 0).cs).toArray 32 (0, 0)), own b5 (.cells (q.cs).toArray 35 (0, 0)), oMa mb tb hs, tree t3, St (hs.map rowN), V]) (zS (k := 6) rfl (zf _)) ?_ ?_
             ·refine zM ?_
              refine zK ?_
              refine zH rfl (zL rfl) rfl ?_
              refine zH rfl (qQ rfl rfl rfl) rfl ?_
              refine zN ?_
              refine zI ?_
              refine zq rfl (fun hc145 => ?_) (fun hc145 => ?_)
              ·replace hc145 := zy2 hc145
               refine q8 (L := [own b6 (.cells ((Rk.rep ⟨0, 0, [], [], [], At.zero⟩ none 0 none 0).cs).toArray 32 (0, 0)), own b5 (.cells (q.cs).toArray 35 (0, 0)), oMa mb tb hs, tree t, St (hs.map rowN), V]) (by repeat (first | exact zY _ | refine zJ 0 rfl ?_ | refine zJ 1 rfl ?_ | refine zJ 2 rfl ?_ | refine zJ 3 rfl ?_ | refine zJ 4 rfl ?_ | refine zJ 5 rfl ?_ | refine zJ 6 rfl ?_ | refine zJ 7 rfl ?_ | refine zJ 8 rfl ?_ | refine zJ 9 rfl ?_ | refine zJ 10 rfl ?_ | refine zJ 11 rfl ?_ | refine zJ 12 rfl ?_ | refine zJ 13 rfl ?_ | refine SubH.rown ?_)) ?_
               refine qZ 8 (by kernel_rfl) (zG 1 rfl (zG 1 rfl (zR _))) ?_
               refine zRO (i := 0) (by kernel_rfl) rfl rfl (zL rfl) rfl ?_
               refine zRO (i := 1) (by kernel_rfl) rfl rfl (zU rfl) rfl ?_
               refine zRO (i := 2) (by kernel_rfl) rfl rfl (zP yT rfl) rfl ?_
               refine zRO (i := 3) (by kernel_rfl) rfl rfl (zW sc51 rfl (zy4 1 rfl (Rd.own rfl))) rfl ?_
               refine zRO (i := 4) (by kernel_rfl) rfl rfl (zL rfl) rfl ?_
               refine zRO (i := 5) (by kernel_rfl) rfl rfl (zP fa35_8 rfl) rfl ?_
               refine zRO (i := 6) (by kernel_rfl) rfl rfl (qX ag30 rfl (zy6 0 rfl (rdn_sub 7)) rfl) rfl ?_
               refine qM (i := 7) (by kernel_rfl) rfl rfl (zb Tryz.call35 rfl rfl (by repeat (first | exact zR _ | apply zG 0 rfl | apply zG 1 rfl | apply zG 2 rfl | apply zG 3 rfl | apply zG 4 rfl | apply zG 5 rfl | apply zG 6 rfl | apply zG 7 rfl | apply zG 8 rfl | apply zG 9 rfl | apply zG 10 rfl | apply zG 11 rfl)) (qf htb (set_spec hW id3 q.a hq.a))) rfl ?_
               rintro _ H' ⟨_, ⟨t3, e4, rfl, hR3, rfl⟩, hH⟩
               simp only [List.cons_append, List.nil_append, List.eraseIdx_cons_zero, List.eraseIdx_cons_succ, List.set_cons_zero, List.set_cons_succ] at hH
               subst hH
               obtain ⟨hW3, hnx3, htb3, _⟩ := set_wf hW hq.a hR3
               have htb3 : t3.tb = tb := by rw [htb3, htb]
               refine qR (m' := 9) (L' := []) (by kernel_rfl) qx ?_
               simp only [List.cons_append, List.nil_append, List.append_nil]
               refine zRO (i := 8) (by kernel_rfl) rfl rfl (zO rfl) rfl ?_
               refine qT (by kernel_rfl) ?_
               refine zI ?_
               refine qc (qn ⟨t3, e4, ⟨hW3, htb3, by omega, by rw [if_pos (by omega)]; exact hR3⟩, rfl, rfl⟩ ?_ ?_ ?_)
               ·exact (by repeat (first | exact zf _ | refine zS rfl ?_))
               ·exact (by repeat (first | exact zf _ | refine zS rfl ?_))
               ·exact (zJ 3 rfl (zJ 0 rfl (zJ 0 rfl (zJ 0 rfl (zJ 0 rfl (zJ 0 rfl (zY _)))))))
              ·replace hc145 := zy3 hc145
               refine zl ?_
               refine zI ?_
               refine qc (qn ⟨t, e3, ⟨⟨r, hW⟩, htb, by omega, by rw [if_neg (by omega)]; exact ⟨rfl, rfl⟩⟩, rfl, rfl⟩ ?_ ?_ ?_)
               ·exact (by repeat (first | exact zf _ | refine zS rfl ?_))
               ·exact (by repeat (first | exact zf _ | refine zS rfl ?_))
               ·exact (zJ 1 rfl (zJ 1 rfl (zJ 1 rfl (zJ 1 rfl (zJ 1 rfl (zJ 1 rfl (zY _)))))))
             ·rintro Δ LL ⟨t3, e4, ⟨hW3, htb3, hnx3, hO3⟩, rfl, rfl⟩
              simp only [List.cons_append, List.nil_append]
              refine zM ?_
              refine zK ?_
              refine zH rfl (zL rfl) rfl ?_
              refine zT rfl (zb Tryz.call32 rfl rfl (by repeat (first | exact zR _ | apply zG 0 rfl | apply zG 1 rfl | apply zG 2 rfl | apply zG 3 rfl | apply zG 4 rfl | apply zG 5 rfl | apply zG 6 rfl | apply zG 7 rfl | apply zG 8 rfl | apply zG 9 rfl | apply zG 10 rfl | apply zG 11 rfl)) (yz e4)) rfl ?_
              rintro _ H' ⟨_, ⟨rfl, rfl⟩, hH⟩
              simp only [List.cons_append, List.nil_append, List.eraseIdx_cons_zero, List.eraseIdx_cons_succ, List.set_cons_zero, List.set_cons_succ] at hH
              subst hH
              first | refine qp (fun w F sw => qb (xF e4) sw) ?_ | refine qu (fun w F sw => qb (xF e4) sw) ?_
              refine zo rfl (zm 2 qW rfl rfl rfl rfl rfl (zy1 rfl) (zg _)) rfl ?_
              rintro _ _ rfl
              simp only [List.set_cons_zero, List.set_cons_succ]
              refine zN ?_
              refine zI ?_
              refine zi ?_
              refine zn ?_
              refine zh ?_
              refine' zX (qg rfl (qB qW rfl (zy6 2 rfl zx) rfl)) ?_ ?_
              rotate_left 1
              exact ⟨t3, hs, ofK e4, none, 0, none, 0, (by first | rfl | (rw [← ye]; rfl)), (do_path hs16 hnb h7 hr14 hpp hpe (by unfold pathR; rw [if_neg (by omega), if_neg (by omega), if_neg (by omega), if_neg (by omega), if_neg (by omega), if_pos (by omega)]; rw [hz3]; dsimp only; by_cases h0 : e3 = 0; (rw [if_pos h0] at hO3 ⊢; exact ⟨e4, hO3, rfl⟩); (rw [if_neg h0] at hO3 ⊢; exact ⟨hO3.1, by rw [hO3.2]⟩))), hW3, htb3, hnx3, hH, rfl⟩
              exact (zJ 0 rfl (zJ 0 rfl (zJ 2 rfl (zJ 2 rfl (zJ 2 rfl (zJ 2 rfl (zY _)))))))
            ·replace hc133 := zy3 hc133
             refine zl ?_
             refine zQ ?_
             refine zI ?_
             refine zM ?_
             refine zK ?_
             refine zH rfl (zL rfl) rfl ?_
             refine zH rfl (zL rfl) rfl ?_
             refine zH rfl (zU rfl) rfl ?_
             refine zH rfl (zP yT rfl) rfl ?_
             refine zH rfl (zW sc51 rfl (zy4 3 rfl (Rd.own rfl))) rfl ?_
             refine zH rfl (zL rfl) rfl ?_
             refine zT rfl (zy (Pre := []) Tryz.call39 rfl rfl (zR _) (qf htb (look_spec (Tv.pick 4 rfl (qh t)) hW _ _ pp.1 (zy5 0 rfl Vw.row) hfew))) rfl ?_
             rintro _ H' ⟨_, ⟨rfl, rfl⟩, hH⟩
             simp only [List.cons_append, List.nil_append, List.eraseIdx_cons_zero, List.eraseIdx_cons_succ, List.set_cons_zero, List.set_cons_succ] at hH
             subst hH
             obtain ⟨⟨id3, e3⟩, hz3⟩ : ∃ z : Int × Int, lookO (fnd t.ns r pp.1) = z := ⟨_, rfl⟩
             rw [hz3]
             dsimp only
             refine zH rfl (zu rfl rfl) rfl ?_
             refine zH rfl (zu rfl rfl) rfl ?_
             refine zT rfl (zy (Pre := []) Tryz.call40 rfl rfl (zR _) (told16_spec (Mq.of 3 4 rfl rfl htb) hdl id3 e3)) rfl ?_
             rintro _ H' ⟨_, ⟨rfl, rfl⟩, hH⟩
             simp only [List.cons_append, List.nil_append, List.eraseIdx_cons_zero, List.eraseIdx_cons_succ, List.set_cons_zero, List.set_cons_succ] at hH
             subst hH
             first | refine qp (fun w F sw => qb (dry_told t id3 e3) sw) ?_ | refine qu (fun w F sw => qb (dry_told t id3 e3) sw) ?_
             refine zo rfl (zm 3 qW rfl rfl rfl rfl rfl (zy1 rfl) (zg _)) rfl ?_
             rintro _ _ rfl
             simp only [List.set_cons_zero, List.set_cons_succ]
             refine zN ?_
             refine zI ?_
             refine zi ?_
             refine' zX (qg rfl (qB qW rfl (zy6 3 rfl zx) rfl)) ?_ ?_
             rotate_left 1
             exact ⟨t, hs, toldK t id3 e3, none, 0, none, 0, (by first | rfl | (rw [← ye]; rfl)), (do_path hs16 hnb h7 hr14 hpp hpe (by unfold pathR; rw [if_neg (by omega), if_neg (by omega), if_neg (by omega), if_neg (by omega), if_neg (by omega), if_neg (by omega)]; rw [hz3]; exact ⟨rfl, rfl⟩)), ⟨r, hW⟩, htb, by omega, hH, rfl⟩
             exact (zJ 0 rfl (zJ 0 rfl (zJ 3 rfl (zJ 3 rfl (zJ 3 rfl (zJ 3 rfl (zY _)))))))
theorem rows_new : ∀ (n : Nat) {L : List HProp} {w : World} {F : HProp} (_ : sat w (star (St L) F)), sat w (star (St (St ((List.replicate n Hd.zero).map rowN) :: L)) F)
 | 0, L, w, F, s => by
  rw [qJ]
  show sat w (star (star (St []) (St L)) F)
  rw [yV, emp_star]; exact s
 | n + 1, L, w, F, s => by
  have s1 := qv 87 8 w F (rows_new n s)
  rw [qJ, qJ, ← zv] at s1
  rw [qJ, show (List.replicate (n + 1) Hd.zero).map rowN = rowN Hd.zero :: (List.replicate n Hd.zero).map rowN from rfl, qJ]
  exact s1
theorem hs0_ok : HsOk (List.replicate 256 Hd.zero) := ⟨List.length_replicate, fun h hh => by rw [List.eq_of_mem_replicate hh]; exact ⟨by decide, by decide, by decide⟩⟩
theorem fnew_spec : Tri Tryz.prog 11 [] [] (fun v H' => ∃ mb t r, v = .pointer (some ⟨mb, 0, none⟩) ∧ t.ns = [r] ∧ t.next = 1 ∧ Wf t r ∧ H' = [oMa mb t.tb (List.replicate 256 Hd.zero), tree t, St ((List.replicate 256 Hd.zero).map rowN)]) := by
 refine zt Tryz.func11 rfl Tryz.ntmps11 (by simp) ?_
 refine zM ?_
 refine zK ?_
 refine zH rfl (zO rfl) rfl ?_
 refine zN ?_
 refine zI ?_
 refine zM ?_
 refine zK ?_
 refine zT rfl (zb Tryz.call27 rfl rfl (by repeat (first | exact zR _ | apply zG 0 rfl | apply zG 1 rfl | apply zG 2 rfl | apply zG 3 rfl | apply zG 4 rfl | apply zG 5 rfl | apply zG 6 rfl | apply zG 7 rfl | apply zG 8 rfl | apply zG 9 rfl | apply zG 10 rfl | apply zG 11 rfl)) (new_spec)) rfl ?_
 rintro _ H' ⟨_, ⟨t, r, rfl, hn1, hn2, hW, rfl⟩, hH⟩
 simp only [List.cons_append, List.nil_append, List.eraseIdx_cons_zero, List.eraseIdx_cons_succ, List.set_cons_zero, List.set_cons_succ] at hH
 subst hH
 refine zH rfl (qY rfl (qK (cs := .pointer (some ⟨t.tb, 0, none⟩) :: flat Hd.cs (List.replicate 256 Hd.zero)) st71 (by kernel_rfl))) rfl ?_
 refine zT rfl (qj rfl) rfl ?_
 rintro _ _ ⟨b3, rfl, rfl⟩
 refine zH rfl (zO rfl) rfl ?_
 refine zN ?_
 refine qD (fun w F sw => rows_new 256 sw) ?_
 refine zi ?_
 refine' zX (qk rfl rfl) ?_ ?_
 rotate_left 1
 exact ⟨b3, t, r, rfl, hn1, hn2, hW, rfl⟩
 exact (zJ 1 rfl (zJ 1 rfl (zJ 0 rfl (zY _))))
/-- a session's handles that are used, of the first n -/
def opH (hs : List Hd) (s n : Nat) : List (List UInt8) := ((List.range n).filter fun i => (hdA hs s i).used).map hname
/-- a session's handles are dropped -/
def dropH (hs : List Hd) (s : Nat) : List Hd := hs.take (s * 16) ++ List.replicate 16 Hd.zero ++ hs.drop (s * 16 + 16)
def encNm (x : Nm) : List UInt8 := be x.n.length 4 ++ x.n ++ x.at'.enc
/-- a handle as bytes -/
def encH (h : Hd) : List UInt8 := if h.used = false then [b8 0] else if h.dir = false then b8 1 :: (be h.id.toNat 8 ++ be h.flags 4) else b8 2 :: (be h.id.toNat 8 ++ be h.names.length 4 ++ h.names.flatMap encNm)
theorem encH_none {h : Hd} (hu : h.used = false) : encH h = [b8 0] := if_pos hu
theorem encH_file {h : Hd} (hu : h.used = true) (hd : h.dir = false) : encH h = b8 1 :: (be h.id.toNat 8 ++ be h.flags 4) := by
 unfold encH; rw [if_neg (by rw [hu]; decide), if_pos hd]
theorem encH_dir {h : Hd} (hu : h.used = true) (hd : h.dir = true) : encH h = b8 2 :: (be h.id.toNat 8 ++ be h.names.length 4 ++ h.names.flatMap encNm) := by
 unfold encH; rw [if_neg (by rw [hu]; decide), if_neg (by rw [hd]; decide)]
theorem encNm_take {l : List Nm} {i : Nat} (hi : i < l.length) : (l.take (i + 1)).flatMap encNm = (l.take i).flatMap encNm ++ encNm l[i] := by
 rw [List.take_succ_eq_append_getElem hi, List.flatMap_append, List.flatMap_cons, List.flatMap_nil, List.append_nil]
theorem at_enc_le (x : At) : x.enc.length ≤ 32 := by
 have l1 := x.e1_le
 have l2 := x.e2_le
 have l3 := x.e3_le
 have l4 := x.e4_le
 unfold At.enc
 simp only [List.length_append, qE]; omega
theorem encNm_sum : ∀ {l : List Nm}, (∀ x ∈ l, x.n.length ≤ 30 ∧ x.at'.Ok) → (l.flatMap encNm).length ≤ 70 * l.length
 | [], _ => by simp
 | x :: l, h => by
  have h1 := encNm_sum (l := l) fun y hy => h y (List.mem_cons_of_mem _ hy)
  have h2 := (h x (by simp)).1
  have h3 := at_enc_le x.at'
  rw [List.flatMap_cons, List.length_append, List.length_cons]
  have h4 : (encNm x).length ≤ 70 := by unfold encNm; simp only [List.length_append, qE]; omega
  omega
theorem nm_rd {b : Nat} {x : Nm} : RdN (own b (.cells (Nm.cs x).toArray 87 (0, 0))) b (0 + 1) x.at'.cs := fun j v hj => Rd.own (by rw [Nat.zero_add, Nat.add_comm]; exact hj)
/-- a handle that can be saved -/
structure HdS (h : Hd) : Prop where
 id : 0 ≤ h.id ∧ h.id ≤ 9223372036854775807
 fl : h.flags < 4294967296
 len : h.names.length ≤ 1000
 nm : ∀ x ∈ h.names, x.n.length ≤ 30 ∧ x.at'.Ok
theorem encH_len {h : Hd} (hh : HdS h) : (encH h).length ≤ 70013 := by
 have h1 := encNm_sum hh.nm
 have h2 := hh.len
 unfold encH
 split
 ·simp
 ·split
  ·simp only [List.length_cons, List.length_append, qE]; omega
  ·simp only [List.length_cons, List.length_append, qE]; omega
theorem put16_spec {V : HProp} (h : Hd) (hh : HdS h) (hV : Vw V (.slice h.np h.names.length h.nc) h.names.length (flat Nm.cs h.names)) (pw : Nat) (p : Option Addr) (c : Nat) (l : List UInt8) (hl : l.length ≤ 1000000000000) : Tri Tryz.prog 48 [.pointer (some ⟨pw, 0, none⟩), .agg h.cs.toArray] (wr pw p c l ++ [V]) (fun v H' => ∃ p' c', v = .tuple #[] ∧ H' = wr pw p' c' (l ++ encH h) ++ [V]) := by
 have hid := hh.id
 have hfl := hh.fl
 have hlen := hh.len
 have hN := hh.nm
 cases hu : h.used with
 | false =>
  refine zt Tryz.func48 rfl Tryz.ntmps48 (by simp) ?_
  refine zM ?_
  refine zK ?_
  refine zT rfl (qj rfl) rfl ?_
  rintro _ _ ⟨b3, rfl, rfl⟩
  refine zN ?_
  refine zI ?_
  refine qA ?_
  refine zM ?_
  refine zK ?_
  refine zH rfl (zP fa67_0 rfl) rfl ?_
  refine zH rfl (zW sc4 rfl (zy4 0 rfl (Rd.own rfl))) rfl ?_
  rw [hu]
  refine zH rfl (qy rfl rfl) rfl ?_
  try simp only [Bool.not_true, Bool.not_false]
  refine zH rfl (zO rfl) rfl ?_
  refine zN ?_
  refine zI ?_
  refine qG rfl ?_
  refine zK ?_
  refine zH rfl (zL rfl) rfl ?_
  refine zT rfl (zb Tryz.call91 rfl rfl (by repeat (first | exact zR _ | apply zG 0 rfl | apply zG 1 rfl | apply zG 2 rfl | apply zG 3 rfl | apply zG 4 rfl | apply zG 5 rfl | apply zG 6 rfl | apply zG 7 rfl | apply zG 8 rfl | apply zG 9 rfl | apply zG 10 rfl | apply zG 11 rfl)) (byte_spec pw p c l 0 (by omega))) rfl ?_
  rintro _ H' ⟨_, ⟨p1, c1, rfl, rfl⟩, hH⟩
  simp only [List.cons_append, List.nil_append, List.eraseIdx_cons_zero, List.eraseIdx_cons_succ, List.set_cons_zero, List.set_cons_succ] at hH
  subst hH
  rw [show l ++ [b8 0] = l ++ encH h by rw [encH_none hu]]
  refine zN ?_
  refine zQ ?_
  refine' doneS_normal (res0 rfl) ?_ ?_
  rotate_left 1
  exact ⟨p1, c1, rfl, rfl⟩
  exact (zJ 0 rfl (zJ 0 rfl (zJ 1 rfl (zY _))))
 | true =>
  cases hd : h.dir with
  | false =>
   refine zt Tryz.func48 rfl Tryz.ntmps48 (by simp) ?_
   refine zM ?_
   refine zK ?_
   refine zT rfl (qj rfl) rfl ?_
   rintro _ _ ⟨b3, rfl, rfl⟩
   refine zN ?_
   refine zI ?_
   refine qA ?_
   refine zM ?_
   refine zK ?_
   refine zH rfl (zP fa67_0 rfl) rfl ?_
   refine zH rfl (zW sc4 rfl (zy4 0 rfl (Rd.own rfl))) rfl ?_
   rw [hu]
   refine zH rfl (qy rfl rfl) rfl ?_
   try simp only [Bool.not_true, Bool.not_false]
   refine zH rfl (zO rfl) rfl ?_
   refine zN ?_
   refine zI ?_
   refine qC rfl ?_
   refine zM ?_
   refine zK ?_
   refine zH rfl (zP fa67_2 rfl) rfl ?_
   refine zH rfl (zW sc4 rfl (zy4 0 rfl (Rd.own rfl))) rfl ?_
   rw [hd]
   refine zH rfl (qy rfl rfl) rfl ?_
   try simp only [Bool.not_true, Bool.not_false]
   refine zH rfl (zO rfl) rfl ?_
   refine zN ?_
   refine zI ?_
   refine qG rfl ?_
   refine zM ?_
   refine zK ?_
   refine zH rfl (zL rfl) rfl ?_
   refine zT rfl (zb Tryz.call91 rfl rfl (by repeat (first | exact zR _ | apply zG 0 rfl | apply zG 1 rfl | apply zG 2 rfl | apply zG 3 rfl | apply zG 4 rfl | apply zG 5 rfl | apply zG 6 rfl | apply zG 7 rfl | apply zG 8 rfl | apply zG 9 rfl | apply zG 10 rfl | apply zG 11 rfl)) (byte_spec pw p c l 1 (by omega))) rfl ?_
   rintro _ H' ⟨_, ⟨p1, c1, rfl, rfl⟩, hH⟩
   simp only [List.cons_append, List.nil_append, List.eraseIdx_cons_zero, List.eraseIdx_cons_succ, List.set_cons_zero, List.set_cons_succ] at hH
   subst hH
   generalize hl1 : l ++ [b8 1] = l1
   have hn1 : l1.length = l.length + 1 := by rw [← hl1, List.length_append]; rfl
   refine zN ?_
   refine zI ?_
   refine zM ?_
   refine zK ?_
   refine zH rfl (zL rfl) rfl ?_
   refine zH rfl (zP fa67_1 rfl) rfl ?_
   refine zH rfl (zW sc3 rfl (zy4 2 rfl (Rd.own rfl))) rfl ?_
   refine zH rfl (yF Tryz.underlying3 Tryz.underlying28 rfl (show IntKind.u64.wrap h.id = ((h.id.toNat : Nat) : Int) by rw [yI (by omega) (by omega)]; omega)) rfl ?_
   refine zT rfl (zb Tryz.call88 rfl rfl (by repeat (first | exact zR _ | apply zG 0 rfl | apply zG 1 rfl | apply zG 2 rfl | apply zG 3 rfl | apply zG 4 rfl | apply zG 5 rfl | apply zG 6 rfl | apply zG 7 rfl | apply zG 8 rfl | apply zG 9 rfl | apply zG 10 rfl | apply zG 11 rfl)) (u64_at pw p1 c1 l1 h.id.toNat _ rfl (by omega))) rfl ?_
   rintro _ H' ⟨_, ⟨p2, c2, rfl, rfl⟩, hH⟩
   simp only [List.cons_append, List.nil_append, List.eraseIdx_cons_zero, List.eraseIdx_cons_succ, List.set_cons_zero, List.set_cons_succ] at hH
   subst hH
   generalize hl2 : l1 ++ be h.id.toNat 8 = l2
   have hn2 : l2.length = l.length + 9 := by rw [← hl2, List.length_append, hn1, qE]
   refine zN ?_
   refine zI ?_
   refine zK ?_
   refine zH rfl (zL rfl) rfl ?_
   refine zH rfl (zP fa67_3 rfl) rfl ?_
   refine zH rfl (zW yB rfl (zy4 2 rfl (Rd.own rfl))) rfl ?_
   refine zT rfl (zb Tryz.call90 rfl rfl (by repeat (first | exact zR _ | apply zG 0 rfl | apply zG 1 rfl | apply zG 2 rfl | apply zG 3 rfl | apply zG 4 rfl | apply zG 5 rfl | apply zG 6 rfl | apply zG 7 rfl | apply zG 8 rfl | apply zG 9 rfl | apply zG 10 rfl | apply zG 11 rfl)) (u32_at pw p2 c2 l2 h.flags _ rfl (by omega) (by omega))) rfl ?_
   rintro _ H' ⟨_, ⟨p3, c3, rfl, rfl⟩, hH⟩
   simp only [List.cons_append, List.nil_append, List.eraseIdx_cons_zero, List.eraseIdx_cons_succ, List.set_cons_zero, List.set_cons_succ] at hH
   subst hH
   rw [show l2 ++ be h.flags 4 = l ++ encH h by rw [encH_file hu hd, ← hl2, ← hl1]; simp only [List.append_assoc, List.cons_append, List.nil_append]]
   refine zN ?_
   refine zQ ?_
   refine' doneS_normal (res0 rfl) ?_ ?_
   rotate_left 1
   exact ⟨p3, c3, rfl, rfl⟩
   exact (zJ 0 rfl (zJ 0 rfl (zJ 1 rfl (zY _))))
  | true =>
   refine zt Tryz.func48 rfl Tryz.ntmps48 (by simp) ?_
   refine zM ?_
   refine zK ?_
   refine zT rfl (qj rfl) rfl ?_
   rintro _ _ ⟨b3, rfl, rfl⟩
   refine zN ?_
   refine zI ?_
   refine qA ?_
   refine zM ?_
   refine zK ?_
   refine zH rfl (zP fa67_0 rfl) rfl ?_
   refine zH rfl (zW sc4 rfl (zy4 0 rfl (Rd.own rfl))) rfl ?_
   rw [hu]
   refine zH rfl (qy rfl rfl) rfl ?_
   try simp only [Bool.not_true, Bool.not_false]
   refine zH rfl (zO rfl) rfl ?_
   refine zN ?_
   refine zI ?_
   refine qC rfl ?_
   refine zM ?_
   refine zK ?_
   refine zH rfl (zP fa67_2 rfl) rfl ?_
   refine zH rfl (zW sc4 rfl (zy4 0 rfl (Rd.own rfl))) rfl ?_
   rw [hd]
   refine zH rfl (qy rfl rfl) rfl ?_
   try simp only [Bool.not_true, Bool.not_false]
   refine zH rfl (zO rfl) rfl ?_
   refine zN ?_
   refine zI ?_
   refine qC rfl ?_
   refine zM ?_
   refine zK ?_
   refine zH rfl (zL rfl) rfl ?_
   refine zT rfl (zb Tryz.call91 rfl rfl (by repeat (first | exact zR _ | apply zG 0 rfl | apply zG 1 rfl | apply zG 2 rfl | apply zG 3 rfl | apply zG 4 rfl | apply zG 5 rfl | apply zG 6 rfl | apply zG 7 rfl | apply zG 8 rfl | apply zG 9 rfl | apply zG 10 rfl | apply zG 11 rfl)) (byte_spec pw p c l 2 (by omega))) rfl ?_
   rintro _ H' ⟨_, ⟨p1, c1, rfl, rfl⟩, hH⟩
   simp only [List.cons_append, List.nil_append, List.eraseIdx_cons_zero, List.eraseIdx_cons_succ, List.set_cons_zero, List.set_cons_succ] at hH
   subst hH
   generalize hl1 : l ++ [b8 2] = l1
   have hn1 : l1.length = l.length + 1 := by rw [← hl1, List.length_append]; rfl
   refine zN ?_
   refine zI ?_
   refine zM ?_
   refine zK ?_
   refine zH rfl (zL rfl) rfl ?_
   refine zH rfl (zP fa67_1 rfl) rfl ?_
   refine zH rfl (zW sc3 rfl (zy4 2 rfl (Rd.own rfl))) rfl ?_
   refine zH rfl (yF Tryz.underlying3 Tryz.underlying28 rfl (show IntKind.u64.wrap h.id = ((h.id.toNat : Nat) : Int) by rw [yI (by omega) (by omega)]; omega)) rfl ?_
   refine zT rfl (zb Tryz.call88 rfl rfl (by repeat (first | exact zR _ | apply zG 0 rfl | apply zG 1 rfl | apply zG 2 rfl | apply zG 3 rfl | apply zG 4 rfl | apply zG 5 rfl | apply zG 6 rfl | apply zG 7 rfl | apply zG 8 rfl | apply zG 9 rfl | apply zG 10 rfl | apply zG 11 rfl)) (u64_at pw p1 c1 l1 h.id.toNat _ rfl (by omega))) rfl ?_
   rintro _ H' ⟨_, ⟨p2, c2, rfl, rfl⟩, hH⟩
   simp only [List.cons_append, List.nil_append, List.eraseIdx_cons_zero, List.eraseIdx_cons_succ, List.set_cons_zero, List.set_cons_succ] at hH
   subst hH
   generalize hl2 : l1 ++ be h.id.toNat 8 = l2
   have hn2 : l2.length = l.length + 9 := by rw [← hl2, List.length_append, hn1, qE]
   refine zN ?_
   refine zI ?_
   refine zM ?_
   refine zK ?_
   refine zH rfl (zL rfl) rfl ?_
   refine zH rfl (zP fa67_4 rfl) rfl ?_
   refine zH rfl (zW sc26 rfl (zy4 2 rfl (Rd.own rfl))) rfl ?_
   refine zH rfl (zw Tryz.underlying26 rfl) rfl ?_
   refine zH rfl (yF Tryz.underlying3 Tryz.underlying27 rfl (xC (by omega) (by omega))) rfl ?_
   refine zT rfl (zb Tryz.call90 rfl rfl (by repeat (first | exact zR _ | apply zG 0 rfl | apply zG 1 rfl | apply zG 2 rfl | apply zG 3 rfl | apply zG 4 rfl | apply zG 5 rfl | apply zG 6 rfl | apply zG 7 rfl | apply zG 8 rfl | apply zG 9 rfl | apply zG 10 rfl | apply zG 11 rfl)) (u32_at pw p2 c2 l2 h.names.length _ rfl (by omega) (by omega))) rfl ?_
   rintro _ H' ⟨_, ⟨p3, c3, rfl, rfl⟩, hH⟩
   simp only [List.cons_append, List.nil_append, List.eraseIdx_cons_zero, List.eraseIdx_cons_succ, List.set_cons_zero, List.set_cons_succ] at hH
   subst hH
   generalize hl3 : l2 ++ be h.names.length 4 = l3
   have hn3 : l3.length = l.length + 13 := by rw [← hl3, List.length_append, hn2, qE]
   refine zN ?_
   refine zI ?_
   refine zM ?_
   refine zK ?_
   refine zH rfl (zP fa67_4 rfl) rfl ?_
   refine zH rfl (zW sc26 rfl (zy4 2 rfl (Rd.own rfl))) rfl ?_
   refine zH rfl (zw Tryz.underlying26 rfl) rfl ?_
   refine zH rfl (zL rfl) rfl ?_
   refine zN ?_
   refine zI ?_
   refine qA ?_
   refine yQ 5 (fun m Δ LL => ∃ (i : Nat) (z : List UInt8) (p6 : Option Addr) (c6 : Nat), (i + m = h.names.length ∧ z = l3 ++ (h.names.take i).flatMap encNm) ∧ Δ = [(22, .int .i64 (i : Nat))] ∧ LL = [own pw (.cells [Value.slice p6 (z).length c6].toArray 135 (0, 0)), row 5 1 (.slice p6 (z).length c6) (z).length (cel (z)), V]) (m := h.names.length) (zS (k := 0) rfl (zS (k := 20) rfl (zS (k := 21) rfl (zf _)))) (qn ⟨0, l3, p3, c3, ⟨by omega, by simp⟩, rfl, rfl⟩ (by repeat (first | exact zf _ | refine zS rfl ?_)) (by repeat (first | exact zf _ | refine zS rfl ?_)) (by repeat (first | exact zY _ | refine zJ 0 rfl ?_ | refine zJ 1 rfl ?_ | refine zJ 2 rfl ?_ | refine zJ 3 rfl ?_ | refine zJ 4 rfl ?_ | refine zJ 5 rfl ?_ | refine zJ 6 rfl ?_ | refine zJ 7 rfl ?_ | refine zJ 8 rfl ?_ | refine zJ 9 rfl ?_ | refine zJ 10 rfl ?_ | refine zJ 11 rfl ?_ | refine zJ 12 rfl ?_ | refine zJ 13 rfl ?_ | refine SubH.rown ?_))) ?_
   rintro m Δ LL ⟨i, z, p6, c6, ⟨hm, hz⟩, rfl, rfl⟩
   simp only [List.cons_append, List.nil_append]
   refine zM ?_
   refine zK ?_
   refine zH rfl (yP rfl rfl rfl) rfl ?_
   refine zN ?_
   refine zI ?_
   refine zM ?_
   refine zq rfl (fun hc23 => ?_) (fun hc23 => ?_)
   ·replace hc23 := zy2 hc23
    have hi : i < h.names.length := by omega
    obtain ⟨hx1, hx2⟩ := hN _ (List.getElem_mem hi)
    have hzl : z.length ≤ l.length + 13 + 70 * i := by rw [hz, List.length_append, hn3]; have := encNm_sum (l := h.names.take i) (fun x hx => hN x (List.mem_of_mem_take hx)); rw [List.length_take] at this; omega
    refine yN (fun w F sw => vw_ptr (zy5 (H := [_, _, V]) 2 rfl hV) sw (by omega)) ?_
    rintro ⟨b0, o0, hnp⟩
    have hV2 := hV
    rw [hnp] at hV2
    refine zl ?_
    refine zI ?_
    refine zM ?_
    refine qA ?_
    refine yO 1007 (fun Δ LL => ∃ (b5 : Nat), Δ = [(5, .pointer (some ⟨b5, 0, none⟩))] ∧ LL = [own b5 (.cells (Nm.cs h.names[i]).toArray 87 (0, 0)), own pw (.cells [Value.slice p6 (z).length c6].toArray 135 (0, 0)), row 5 1 (.slice p6 (z).length c6) (z).length (cel (z)), V]) (zS (k := 0) rfl (zS (k := 20) rfl (zS (k := 21) rfl (zS (k := 22) rfl (zf _))))) ?_ ?_
    ·refine zK ?_
     rw [hnp]
     refine zH rfl (qO sl26 rfl rfl rfl (by omega)) rfl ?_
     refine zH rfl (qX ag87 rfl (zy6 2 rfl (RdN.elem (ym hV2) Nm.len (List.getElem?_eq_getElem hi))) rfl) rfl ?_
     refine zT rfl (qL z87) rfl ?_
     rintro _ _ ⟨b5, rfl, rfl⟩
     refine zo rfl (zm 0 ag87 rfl rfl rfl rfl rfl (zy1 rfl) (zg _)) rfl ?_
     rintro _ _ rfl
     simp only [List.set_cons_zero, List.set_cons_succ]
     refine zN ?_
     refine zI ?_
     refine qc (qn ⟨b5, rfl, rfl⟩ ?_ ?_ ?_)
     ·exact (by repeat (first | exact zf _ | refine zS rfl ?_))
     ·exact (by repeat (first | exact zf _ | refine zS rfl ?_))
     ·exact zj _
    ·rintro Δ LL ⟨b5, rfl, rfl⟩
     simp only [List.cons_append, List.nil_append]
     refine zM ?_
     refine zK ?_
     refine zH rfl (zL rfl) rfl ?_
     refine zH rfl (zP fa87_0 rfl) rfl ?_
     refine zH rfl (zW sc9 rfl (zy4 0 rfl (Rd.own rfl))) rfl ?_
     refine zT rfl (zb Tryz.call47 rfl rfl (by repeat (first | exact zR _ | apply zG 0 rfl | apply zG 1 rfl | apply zG 2 rfl | apply zG 3 rfl | apply zG 4 rfl | apply zG 5 rfl | apply zG 6 rfl | apply zG 7 rfl | apply zG 8 rfl | apply zG 9 rfl | apply zG 10 rfl | apply zG 11 rfl)) (text_at pw p6 c6 z h.names[i].n (by omega))) rfl ?_
     rintro _ H' ⟨_, ⟨p7, c7, rfl, rfl⟩, hH⟩
     simp only [List.cons_append, List.nil_append, List.eraseIdx_cons_zero, List.eraseIdx_cons_succ, List.set_cons_zero, List.set_cons_succ] at hH
     subst hH
     generalize hz7 : z ++ be h.names[i].n.length 4 ++ h.names[i].n = z7
     have hn7 : z7.length = z.length + 4 + h.names[i].n.length := by rw [← hz7]; simp only [List.length_append, qE]
     refine zN ?_
     refine zI ?_
     refine zK ?_
     refine zH rfl (zL rfl) rfl ?_
     refine zH rfl (zP fa87_1 rfl) rfl ?_
     refine zH rfl (qX ag30 rfl (zy6 2 rfl (nm_rd)) rfl) rfl ?_
     refine zT rfl (zb Tryz.call92 rfl rfl (by repeat (first | exact zR _ | apply zG 0 rfl | apply zG 1 rfl | apply zG 2 rfl | apply zG 3 rfl | apply zG 4 rfl | apply zG 5 rfl | apply zG 6 rfl | apply zG 7 rfl | apply zG 8 rfl | apply zG 9 rfl | apply zG 10 rfl | apply zG 11 rfl)) (aput_spec pw p7 c7 z7 h.names[i].at' hx2 (by omega))) rfl ?_
     rintro _ H' ⟨_, ⟨p8, c8, rfl, rfl⟩, hH⟩
     simp only [List.cons_append, List.nil_append, List.eraseIdx_cons_zero, List.eraseIdx_cons_succ, List.set_cons_zero, List.set_cons_succ] at hH
     subst hH
     rw [show z7 ++ h.names[i].at'.enc = z ++ encNm h.names[i] by rw [← hz7]; unfold encNm; simp only [List.append_assoc]]
     refine zN ?_
     refine zQ ?_
     refine zI ?_
     refine zK ?_
     refine zH rfl (ql rfl rfl (qo (by omega))) rfl ?_
     refine zH rfl (zL rfl) rfl ?_
     refine zN ?_
     refine zI ?_
     refine back (m - 1) (by omega) (qn ⟨i + 1, z ++ encNm h.names[i], p8, c8, ⟨by omega, by rw [hz, encNm_take hi, List.append_assoc]⟩, rfl, rfl⟩ ?_ ?_ ?_)
     ·exact (by repeat (first | exact zf _ | refine zS rfl ?_))
     ·exact (by repeat (first | exact zf _ | refine zS rfl ?_))
     ·exact (zJ 0 rfl (zJ 0 rfl (zJ 1 rfl (zY _))))
   ·replace hc23 := zy3 hc23
    have hfin : z = l ++ encH h := by rw [hz, List.take_of_length_le (by omega), ← hl3, ← hl2, ← hl1, encH_dir hu hd]; simp only [List.append_assoc, List.cons_append, List.nil_append]
    rw [hfin]
    refine yJ ?_
    refine qV ?_
    refine qV ?_
    refine qe ?_
    refine zQ ?_
    refine' doneS_normal (res0 rfl) ?_ ?_
    rotate_left 1
    exact ⟨p6, c6, rfl, rfl⟩
    exact zj _
end Go.Proofs.YtlefpllcgcicpaaGreatDoor
