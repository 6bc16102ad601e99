/-
  The walk of PathDots.
-/
import Derived.Test.YtigaolglnnjnmaaDoorPNames
namespace Go.Proofs.YtigaolglnnjnmaaDoor
open Go.Sx
set_option linter.unusedVariables false
set_option linter.unusedSimpArgs false
set_option maxRecDepth 100000
set_option maxHeartbeats 4000000

def dws : List (List UInt8) := [[46], [], [100, 111, 119, 110, 47, 46, 46], [97, 47, 98, 47, 46, 46, 47, 46, 46]]
theorem dws_ok {w : List UInt8} (h : w ∈ dws) : w.length ≤ 9 ∧ ∀ o, pRun (some o) (parts 47 w) = some o := by
  simp only [dws, List.mem_cons, List.not_mem_nil, or_false] at h
  rcases h with rfl | rfl | rfl | rfl
  · exact ⟨by decide, fun o => by rw [show parts 47 [46] = [[46]] from rfl, pRun_dot _ (.inr rfl)]; rfl⟩
  · exact ⟨by decide, fun o => by rw [show parts 47 [] = [[]] from rfl, pRun_dot _ (.inl rfl)]; rfl⟩
  · refine ⟨by decide, fun o => ?_⟩
    rw [show parts 47 [100, 111, 119, 110, 47, 46, 46] = [[100, 111, 119, 110], [46, 46]] from rfl, pRun_cons, pStep_ok o rfl, pRun_cons, pStep_up, List.dropLast_concat]; rfl
  · refine ⟨by decide, fun o => ?_⟩
    rw [show parts 47 [97, 47, 98, 47, 46, 46, 47, 46, 46] = [[97], [98], [46, 46], [46, 46]] from rfl, pRun_cons, pStep_ok o rfl, pRun_cons, pStep_ok _ rfl, pRun_cons, pStep_up, List.dropLast_concat, pRun_cons, pStep_up, List.dropLast_concat]; rfl
theorem dots_run {nm : List (List UInt8)} {w : List UInt8} {k : Nat} (hok : ∀ x ∈ nm, ptOk x = true) (hw : ∀ o, pRun (some o) (parts 47 w) = some o) : pRun (some []) (parts 47 (pJoin (nm.take k ++ [w] ++ nm.drop k))) = some nm := by
  rw [pRun_pJoin, List.flatMap_append, List.flatMap_append, flat_ok (nm.take k) (fun x hx => hok x (List.mem_of_mem_take hx)), flat_ok (nm.drop k) (fun x hx => hok x (List.mem_of_mem_drop hx)), pRun_append, pRun_append, pRun_ok (nm.take k) [] (fun x hx => hok x (List.mem_of_mem_take hx))]
  rw [show [w].flatMap (parts 47) = parts 47 w by simp, hw, pRun_ok (nm.drop k) _ (fun x hx => hok x (List.mem_of_mem_drop hx)), List.nil_append, List.take_append_drop]
theorem pJoin_head (l : List (List UInt8)) : ∃ r, pJoin l = 47 :: r := by unfold pJoin; split <;> exact ⟨_, rfl⟩
theorem run_tail {l : List (List UInt8)} {o : List (List UInt8)} (h : pRun (some []) (parts 47 (pJoin l)) = some o) : pRun (some []) (parts 47 ((pJoin l).drop 1)) = some o := by
  obtain ⟨r, hr⟩ := pJoin_head l
  rw [hr, parts_hit, pRun_dot _ (.inl rfl)] at h
  rw [hr]; exact h
theorem run_slash {l : List (List UInt8)} {o : List (List UInt8)} (h : pRun (some []) (parts 47 (pJoin l)) = some o) : pRun (some []) (parts 47 (pJoin l ++ [47])) = some o := by
  rw [parts_snoc, pRun_append, h, show parts 47 [] = [[]] from rfl, pRun_dot _ (.inl rfl)]; rfl


theorem pdots_run (V : HProp) (hM : Ml V) (q : Option Addr) (cq : Nat) (l : List (List UInt8)) (hV : Vw V (.slice q l.length cq) l.length (txs l)) (hV2 : ∀ x ∈ l, x.length ≤ 9223372036854775807) (hlq : l.length ≤ 9223372036854775807) (at' how : Int) (ht : -9223372036854775808 ≤ at' ∧ at' ≤ 9223372036854775807) (hw : -9223372036854775808 ≤ how ∧ how ≤ 9223372036854775807) :
    Tri Tryd.prog 7 [.slice q l.length cq, .int .i64 at', .int .i64 how] [V] (fun v H' => v = .bool true ∧ H' = [V]) := by
  refine tri_of_wpS Tryd.func7 rfl Tryd.ntmps7 (by simp) ?_
  refine wp_seq' ?_
  refine wp_region' ?_
  refine ops_ro' rfl (ro_assign rfl) rfl ?_
  refine ops_nil ?_
  refine Then_normal ?_
  refine wp_seq' ?_
  refine wp_region' ?_
  refine ops_ro' rfl (ro_assign rfl) rfl ?_
  refine ops_nil ?_
  refine Then_normal ?_
  refine wp_seq' ?_
  refine wp_seq' ?_
  refine wp_region' ?_
  refine ops_ro' rfl (ro_assign rfl) rfl ?_
  refine ops_nil ?_
  refine Then_normal ?_
  refine wp_block' ?_
  refine wp_loopK 3 (fun m Δ LL => ∃ (i : Nat) (nm : List (List UInt8)) (p7 : Option Addr) (c7 : Nat), (i + m = l.length ∧ i ≤ 5 ∧ nm.length ≤ i ∧ (∀ y ∈ nm, ptOk y = true) ∧ ptLen nm ≤ 20 * i) ∧ Δ = [(7, .slice p7 nm.length c7), (8, .int .i64 (i : Nat))] ∧ LL = [row 9 1 (.slice p7 nm.length c7) nm.length (txs nm), V]) (m := l.length) (Has.cons (k := 0) rfl (Has.cons (k := 1) rfl (Has.cons (k := 2) rfl (Has.nil _)))) (kept ⟨0, [], none, 0, ⟨by omega, by omega, by simp, (fun y hy => by cases hy), by simp [ptLen]⟩, rfl, rfl⟩ (by repeat (first | exact Has.nil _ | refine Has.cons rfl ?_)) (by repeat (first | exact Has.nil _ | refine Has.cons rfl ?_)) (by repeat (first | exact SubH.nil _ | refine SubH.cons 0 rfl ?_ | refine SubH.cons 1 rfl ?_ | refine SubH.cons 2 rfl ?_ | refine SubH.cons 3 rfl ?_ | refine SubH.cons 4 rfl ?_ | refine SubH.cons 5 rfl ?_ | refine SubH.cons 6 rfl ?_ | refine SubH.cons 7 rfl ?_ | refine SubH.cons 8 rfl ?_ | refine SubH.cons 9 rfl ?_ | refine SubH.cons 10 rfl ?_ | refine SubH.cons 11 rfl ?_ | refine SubH.cons 12 rfl ?_ | refine SubH.cons 13 rfl ?_ | refine SubH.rown ?_))) ?_
  rintro m Δ LL ⟨i, nm, p7, c7, ⟨hm, hi5, hnl, hok, hz⟩, rfl, rfl⟩
  simp only [List.cons_append, List.nil_append]
  refine wp_seq' ?_
  refine wp_seq' ?_
  refine wp_region' ?_
  refine ops_ro' rfl (ro_move rfl) rfl ?_
  refine ops_ro' rfl (ro_move rfl) rfl ?_
  refine ops_ro' rfl (ro_sliceLen Tryd.underlying24 rfl) rfl ?_
  refine ops_ro' rfl (ro_lss rfl rfl rfl) rfl ?_
  refine ops_split rfl rfl rfl (fun hg22 => ?_) (fun hg22 => ?_)
  · replace hg22 := of_decide_eq_true hg22
    refine ops_ro' rfl (ro_move rfl) rfl ?_
    refine ops_ro' rfl (ro_lss rfl rfl rfl) rfl ?_
    refine ops_ro' rfl (ro_pick rfl rfl) rfl ?_
    refine ops_nil ?_
    refine Then_normal ?_
    refine wp_cond' rfl (fun hc25 => ?_) (fun hc25 => ?_)
    · replace hc25 := of_decide_eq_true hc25
      refine wp_skip' ?_
      refine Then_normal ?_
      refine wp_seq' ?_
      refine wp_block' ?_
      refine wp_seq' ?_
      have hi : i < l.length := by omega
      have hln := hV2 _ (List.getElem_mem hi)
      refine wp_know (fun w F s => vw_ptr (Vw.pick (H := [_, V]) 1 rfl hV) s (by omega)) ?_
      rintro ⟨b0, o0, rfl⟩
      refine wp_region' ?_
      refine ops_ro' rfl (ro_move rfl) rfl ?_
      refine ops_ro' rfl (ro_move rfl) rfl ?_
      refine ops_ro' rfl (ro_indexSlice sl24 rfl rfl rfl (by omega)) rfl ?_
      refine ops_ro' rfl (ro_load sc9 rfl (Rd.pick 1 rfl (Rd.elem (j := 0) (vw_rdn hV) Tx.len (List.getElem?_eq_getElem hi) rfl))) rfl ?_
      refine ops_eff' rfl (eff_call Tryd.call16 rfl rfl (by repeat (first | exact Split.nil _ | apply Split.cons 0 rfl | apply Split.cons 1 rfl | apply Split.cons 2 rfl | apply Split.cons 3 rfl | apply Split.cons 4 rfl | apply Split.cons 5 rfl | apply Split.cons 6 rfl | apply Split.cons 7 rfl | apply Split.cons 8 rfl | apply Split.cons 9 rfl | apply Split.cons 10 rfl | apply Split.cons 11 rfl)) (ptRight_spec l[i] (by omega))) rfl ?_
      rintro _ H' ⟨_, ⟨rfl, rfl⟩, hH⟩
      simp only [List.cons_append, List.nil_append, List.eraseIdx_cons_zero, List.eraseIdx_cons_succ, List.set_cons_zero, List.set_cons_succ] at hH
      subst hH
      refine ops_split rfl rfl rfl (fun hg33 => ?_) (fun hg33 => ?_)
      · skip
        have h30 := ptOk_30 hg33
        refine ops_ro' rfl (ro_move rfl) rfl ?_
        refine ops_ro' rfl (ro_move rfl) rfl ?_
        refine ops_ro' rfl (ro_indexSlice sl24 rfl rfl rfl (by omega)) rfl ?_
        refine ops_ro' rfl (ro_load sc9 rfl (Rd.pick 1 rfl (Rd.elem (j := 0) (vw_rdn hV) Tx.len (List.getElem?_eq_getElem hi) rfl))) rfl ?_
        refine ops_ro' rfl (ro_lenS (t' := 0) Tryd.underlying9 rfl) rfl ?_
        refine ops_ro' rfl (ro_lss rfl rfl rfl) rfl ?_
        refine ops_ro' rfl (ro_pick rfl rfl) rfl ?_
        refine ops_nil ?_
        refine Then_normal ?_
        refine wp_cond' rfl (fun hc40 => ?_) (fun hc40 => ?_)
        · replace hc40 := of_decide_eq_true hc40
          refine wp_region' ?_
          refine ops_ro' rfl (ro_move rfl) rfl ?_
          refine ops_ro' rfl (ro_move rfl) rfl ?_
          refine ops_ro' rfl (ro_move rfl) rfl ?_
          refine ops_ro' rfl (ro_indexSlice sl24 rfl rfl rfl (by omega)) rfl ?_
          refine ops_ro' rfl (ro_load sc9 rfl (Rd.pick 1 rfl (Rd.elem (j := 0) (vw_rdn hV) Tx.len (List.getElem?_eq_getElem hi) rfl))) rfl ?_
          refine ops_eff' rfl (eff_lit sl24 rfl (sbld (cs := [_]) [(.string ByteArray.empty)] sl24 (by decide) (by kernel_rfl) rfl) rfl (by decide)) rfl ?_
          rintro _ _ ⟨b46, rfl, rfl⟩
          refine ops_eff' rfl (eff_appF (f := Tx.cs) (l2 := [l[i]]) 1 sl24 (.inl ⟨9, Tryd.underlying24⟩) rfl rfl rfl (by first | exact Src.flatv Tx.len Tx.one (Vw.pick 0 rfl (vw_subF Vw.row Tx.len (Nat.zero_le _) hkl hsh.2)) | exact Src.flatv Tx.len Tx.one (Vw.pick 1 rfl (vw_subF Vw.row Tx.len (Nat.zero_le _) hkl hsh.2)) | exact Src.flatv Tx.len Tx.one (Vw.pick 2 rfl (vw_subF Vw.row Tx.len (Nat.zero_le _) hkl hsh.2)) | exact Src.flatv Tx.len Tx.one (Vw.pick 3 rfl (vw_subF Vw.row Tx.len (Nat.zero_le _) hkl hsh.2)) | exact Src.flatv Tx.len Tx.one (Vw.pick 4 rfl (vw_subF Vw.row Tx.len (Nat.zero_le _) hkl hsh.2)) | exact Src.flatv Tx.len Tx.one (Vw.pick 5 rfl (vw_subF Vw.row Tx.len (Nat.zero_le _) hkl hsh.2)) | exact Src.flatv Tx.len Tx.one (Vw.pick 6 rfl (vw_subF Vw.row Tx.len (Nat.zero_le _) hkl hsh.2)) | exact Src.flatv Tx.len Tx.one (Vw.pick 7 rfl (vw_subF Vw.row Tx.len (Nat.zero_le _) hkl hsh.2)) | exact Src.flatv Tx.len Tx.one (Vw.pick 8 rfl (vw_subF Vw.row Tx.len (Nat.zero_le _) hkl hsh.2)) | exact Src.flatv Tx.len Tx.one (Vw.pick 0 rfl (vw_subF Vw.row Tx.len hkl (Nat.le_refl _) hsh.2)) | exact Src.flatv Tx.len Tx.one (Vw.pick 1 rfl (vw_subF Vw.row Tx.len hkl (Nat.le_refl _) hsh.2)) | exact Src.flatv Tx.len Tx.one (Vw.pick 2 rfl (vw_subF Vw.row Tx.len hkl (Nat.le_refl _) hsh.2)) | exact Src.flatv Tx.len Tx.one (Vw.pick 3 rfl (vw_subF Vw.row Tx.len hkl (Nat.le_refl _) hsh.2)) | exact Src.flatv Tx.len Tx.one (Vw.pick 4 rfl (vw_subF Vw.row Tx.len hkl (Nat.le_refl _) hsh.2)) | exact Src.flatv Tx.len Tx.one (Vw.pick 5 rfl (vw_subF Vw.row Tx.len hkl (Nat.le_refl _) hsh.2)) | exact Src.flatv Tx.len Tx.one (Vw.pick 6 rfl (vw_subF Vw.row Tx.len hkl (Nat.le_refl _) hsh.2)) | exact Src.flatv Tx.len Tx.one (Vw.pick 7 rfl (vw_subF Vw.row Tx.len hkl (Nat.le_refl _) hsh.2)) | exact Src.flatv Tx.len Tx.one (Vw.pick 8 rfl (vw_subF Vw.row Tx.len hkl (Nat.le_refl _) hsh.2)) | exact Src.flatv Tx.len Tx.one (Vw.pick 0 rfl Vw.row) | exact Src.flatv Tx.len Tx.one (Vw.pick 1 rfl Vw.row) | exact Src.flatv Tx.len Tx.one (Vw.pick 2 rfl Vw.row) | exact Src.flatv Tx.len Tx.one (Vw.pick 3 rfl Vw.row) | exact Src.flatv Tx.len Tx.one (Vw.pick 4 rfl Vw.row) | exact Src.flatv Tx.len Tx.one (Vw.pick 5 rfl Vw.row) | exact Src.flatv Tx.len Tx.one (Vw.pick 6 rfl Vw.row) | exact Src.flatv Tx.len Tx.one (Vw.pick 7 rfl Vw.row) | exact Src.flatv Tx.len Tx.one (Vw.pick 8 rfl Vw.row)) (by simp only [List.length_cons, List.length_nil]; omega) (by simp only [List.length_cons, List.length_nil]; omega)) rfl ?_
          rintro _ _ ⟨p47, c47, rfl, hn47, rfl⟩
          simp only [List.set_cons_zero, List.set_cons_succ]
          refine ops_ro' rfl (ro_assign rfl) rfl ?_
          refine ops_nil ?_
          refine InBlock_normal ?_
          refine Then_normal ?_
          refine wp_region' ?_
          refine ops_ro' rfl (ro_move rfl) rfl ?_
          refine ops_ro' rfl (ro_add rfl rfl (wrap_inc (by omega))) rfl ?_
          refine ops_ro' rfl (ro_assign rfl) rfl ?_
          refine ops_nil ?_
          refine Then_normal ?_
          refine back (m - 1) (by omega) (kept ⟨i + 1, nm ++ [l[i]], p47, c47, ⟨by omega, by omega, by simp; omega, ok_snoc hok hg33, by rw [ptLen_snoc]; omega⟩, rfl, rfl⟩ ?_ ?_ ?_)
          · exact (by repeat (first | exact Has.nil _ | refine Has.cons rfl ?_))
          · exact (by repeat (first | exact Has.nil _ | refine Has.cons rfl ?_))
          · exact (SubH.cons 1 rfl (SubH.cons 1 rfl (SubH.nil _)))
        · replace hc40 := of_decide_eq_false hc40
          refine wp_skip' ?_
          refine InBlock_normal ?_
          refine Then_normal ?_
          refine wp_region' ?_
          refine ops_ro' rfl (ro_move rfl) rfl ?_
          refine ops_ro' rfl (ro_add rfl rfl (wrap_inc (by omega))) rfl ?_
          refine ops_ro' rfl (ro_assign rfl) rfl ?_
          refine ops_nil ?_
          refine Then_normal ?_
          refine back (m - 1) (by omega) (kept ⟨i + 1, nm, p7, c7, ⟨by omega, by omega, by omega, hok, by omega⟩, rfl, rfl⟩ ?_ ?_ ?_)
          · exact (by repeat (first | exact Has.nil _ | refine Has.cons rfl ?_))
          · exact (by repeat (first | exact Has.nil _ | refine Has.cons rfl ?_))
          · exact SubH.refl _
      · skip
        refine ops_skip' rfl rfl ?_
        refine ops_skip' rfl rfl ?_
        refine ops_skip' rfl rfl ?_
        refine ops_skip' rfl rfl ?_
        refine ops_skip' rfl rfl ?_
        refine ops_skip' rfl rfl ?_
        refine ops_ro' rfl (ro_pick rfl rfl) rfl ?_
        refine ops_nil ?_
        refine Then_normal ?_
        refine wp_condF rfl ?_
        refine wp_skip' ?_
        refine InBlock_normal ?_
        refine Then_normal ?_
        refine wp_region' ?_
        refine ops_ro' rfl (ro_move rfl) rfl ?_
        refine ops_ro' rfl (ro_add rfl rfl (wrap_inc (by omega))) rfl ?_
        refine ops_ro' rfl (ro_assign rfl) rfl ?_
        refine ops_nil ?_
        refine Then_normal ?_
        refine back (m - 1) (by omega) (kept ⟨i + 1, nm, p7, c7, ⟨by omega, by omega, by omega, hok, by omega⟩, rfl, rfl⟩ ?_ ?_ ?_)
        · exact (by repeat (first | exact Has.nil _ | refine Has.cons rfl ?_))
        · exact (by repeat (first | exact Has.nil _ | refine Has.cons rfl ?_))
        · exact SubH.refl _
    · replace hc25 := of_decide_eq_false hc25
      refine wp_exit' ?_
      refine Then_exit ?_
      refine Then_exit ?_
      refine InBlock_here ?_
      refine Then_normal ?_
      refine wp_cutK 1009 (fun Δ LL => ∃ (a : Int), (0 ≤ a ∧ a ≤ 9223372036854775807) ∧ Δ = [(1, .int .i64 a)] ∧ LL = [row 9 1 (.slice p7 nm.length c7) nm.length (txs nm), V]) (Has.cons (k := 2) rfl (Has.cons (k := 7) rfl (Has.nil _))) ?_ ?_
      · refine wp_seq' ?_
        refine wp_region' ?_
        refine ops_ro' rfl (ro_move rfl) rfl ?_
        refine ops_ro' rfl (ro_lss rfl rfl rfl) rfl ?_
        refine ops_nil ?_
        refine Then_normal ?_
        refine wp_cond' rfl (fun hc49 => ?_) (fun hc49 => ?_)
        · replace hc49 := of_decide_eq_true hc49
          refine wp_region' ?_
          refine ops_ro' rfl (ro_move rfl) rfl ?_
          refine ops_ro' rfl (ro_add rfl rfl (wrap_i64_in (by omega) (by omega))) rfl ?_
          refine ops_ro' rfl (ro_neg rfl (by first | exact wrap_i64_in (by omega) (by omega) | rfl)) rfl ?_
          refine ops_ro' rfl (ro_assign rfl) rfl ?_
          refine ops_nil ?_
          refine Then_normal ?_
          refine over_cut (kept ⟨0 - (at' + 1), (by refine ⟨?_, ?_⟩ <;> omega), rfl, rfl⟩ ?_ ?_ ?_)
          · exact (by repeat (first | exact Has.nil _ | refine Has.cons rfl ?_))
          · exact (by repeat (first | exact Has.nil _ | refine Has.cons rfl ?_))
          · exact SubH.refl _
        · replace hc49 := of_decide_eq_false hc49
          refine wp_skip' ?_
          refine Then_normal ?_
          refine over_cut (kept ⟨at', (by refine ⟨?_, ?_⟩ <;> omega), rfl, rfl⟩ ?_ ?_ ?_)
          · exact (by repeat (first | exact Has.nil _ | refine Has.cons rfl ?_))
          · exact (by repeat (first | exact Has.nil _ | refine Has.cons rfl ?_))
          · exact SubH.refl _
      · rintro Δ LL ⟨a, ⟨ha, ha2⟩, rfl, rfl⟩
        simp only [List.cons_append, List.nil_append]
        refine wp_cutK 1011 (fun Δ LL => ∃ (b : Int), (0 ≤ b ∧ b ≤ 9223372036854775807) ∧ Δ = [(2, .int .i64 b)] ∧ LL = [row 9 1 (.slice p7 nm.length c7) nm.length (txs nm), V]) (Has.cons (k := 1) rfl (Has.cons (k := 7) rfl (Has.nil _))) ?_ ?_
        · refine wp_seq' ?_
          refine wp_region' ?_
          refine ops_ro' rfl (ro_move rfl) rfl ?_
          refine ops_ro' rfl (ro_lss rfl rfl rfl) rfl ?_
          refine ops_nil ?_
          refine Then_normal ?_
          refine wp_cond' rfl (fun hc54 => ?_) (fun hc54 => ?_)
          · replace hc54 := of_decide_eq_true hc54
            refine wp_region' ?_
            refine ops_ro' rfl (ro_move rfl) rfl ?_
            refine ops_ro' rfl (ro_add rfl rfl (wrap_i64_in (by omega) (by omega))) rfl ?_
            refine ops_ro' rfl (ro_neg rfl (by first | exact wrap_i64_in (by omega) (by omega) | rfl)) rfl ?_
            refine ops_ro' rfl (ro_assign rfl) rfl ?_
            refine ops_nil ?_
            refine Then_normal ?_
            refine over_cut (kept ⟨0 - (how + 1), (by refine ⟨?_, ?_⟩ <;> omega), rfl, rfl⟩ ?_ ?_ ?_)
            · exact (by repeat (first | exact Has.nil _ | refine Has.cons rfl ?_))
            · exact (by repeat (first | exact Has.nil _ | refine Has.cons rfl ?_))
            · exact SubH.refl _
          · replace hc54 := of_decide_eq_false hc54
            refine wp_skip' ?_
            refine Then_normal ?_
            refine over_cut (kept ⟨how, (by refine ⟨?_, ?_⟩ <;> omega), rfl, rfl⟩ ?_ ?_ ?_)
            · exact (by repeat (first | exact Has.nil _ | refine Has.cons rfl ?_))
            · exact (by repeat (first | exact Has.nil _ | refine Has.cons rfl ?_))
            · exact SubH.refl _
        · rintro Δ LL ⟨b, ⟨hb, hb2⟩, rfl, rfl⟩
          simp only [List.cons_append, List.nil_append]
          refine wp_seq' ?_
          obtain ⟨k, rfl⟩ := Int.eq_ofNat_of_zero_le ha
          have hkl := Nat.mod_lt k (show 0 < nm.length + 1 by omega)
          refine wp_region' ?_
          refine ops_ro' rfl (ro_move rfl) rfl ?_
          refine ops_ro' rfl (ro_move rfl) rfl ?_
          refine ops_ro' rfl (ro_sliceLen Tryd.underlying24 rfl) rfl ?_
          refine ops_ro' rfl (ro_add rfl rfl (wrap_inc (by omega))) rfl ?_
          refine ops_ro' rfl (ro_rem rfl rfl (by omega) tmodN) rfl ?_
          replace hkl := Nat.le_of_lt_succ hkl
          generalize k % (nm.length + 1) = k at *
          refine ops_ro' rfl (ro_assign rfl) rfl ?_
          refine ops_nil ?_
          refine Then_normal ?_
          refine wp_cutK 1013 (fun Δ LL => ∃ (wd : List UInt8) (p78 : Option Addr) (c78 : Nat), (wd.length ≤ 9 ∧ ∀ o, pRun (some o) (parts 47 wd) = some o) ∧ Δ = [(10, .slice p78 (nm.take k ++ [wd] ++ nm.drop k).length c78)] ∧ LL = [row 9 1 (.slice p78 (nm.take k ++ [wd] ++ nm.drop k).length c78) (nm.take k ++ [wd] ++ nm.drop k).length (txs (nm.take k ++ [wd] ++ nm.drop k)), row 9 1 (.slice p7 nm.length c7) nm.length (txs nm), V]) (Has.cons (k := 7) rfl (Has.nil _)) ?_ ?_
          · obtain ⟨h, rfl⟩ := Int.eq_ofNat_of_zero_le hb
            have hh4 := Nat.mod_lt h (show 0 < 4 by omega)
            obtain ⟨wd, hws⟩ : ∃ wd, dws[h % 4]? = some wd := ⟨_, List.getElem?_eq_getElem (show h % 4 < dws.length from hh4)⟩
            obtain ⟨hwl, hwr⟩ := dws_ok (List.mem_of_getElem? hws)
            refine wp_know (fun w F s => row_shp 0 rfl s) ?_
            intro hsh
            refine wp_draw 16 (by kernel_rfl) (Split.nil _) ?_
            refine any_ro' (i := 1) (by kernel_rfl) rfl rfl (ro_move rfl) rfl (fun _ _ _ h => h) ?_
            refine any_ro' (i := 2) (by kernel_rfl) rfl rfl (ro_move rfl) rfl (fun _ _ _ h => h) ?_
            refine any_ro' (i := 3) (by kernel_rfl) rfl rfl (ro_sliceP sl24 rfl hsh rfl (bnd_of rfl rfl) (by omega) (by omega)) rfl (fun _ _ _ h => h) ?_
            refine any_ro' (i := 6) (by kernel_rfl) rfl rfl (ro_move rfl) rfl (fun _ _ _ h => h) ?_
            refine any_ro' (i := 7) (by kernel_rfl) rfl rfl (ro_rem rfl rfl (by omega) tmodN) rfl (fun _ _ _ h => h) ?_
            refine any_ro' (i := 12) (by kernel_rfl) rfl rfl (ro_move rfl) rfl (fun _ _ _ h => h) ?_
            refine any_ro' (i := 13) (by kernel_rfl) rfl rfl (ro_move rfl) rfl (fun _ _ _ h => h) ?_
            refine any_ro' (i := 14) (by kernel_rfl) rfl rfl (ro_sliceP sl24 rfl hsh (bnd_of rfl rfl) rfl (by omega) (by omega)) rfl (fun _ _ _ h => h) ?_
            refine any_two (i := 0) (j := 5) (by kernel_rfl) ?_ ?_
            · refine at_eff' rfl rfl (eff_lit sl24 rfl (sbld (cs := []) [] sl24 (by decide) (by kernel_rfl) rfl) rfl (by decide)) rfl ?_
              rintro _ _ ⟨b63, rfl, rfl⟩
              refine any_two (i := 4) (j := 5) (by kernel_rfl) ?_ ?_
              · refine at_eff' rfl rfl (eff_appF (f := Tx.cs) (l := []) (l2 := (nm.drop 0).take (k - 0)) 0 sl24 (.inl ⟨9, Tryd.underlying24⟩) rfl rfl rfl (by first | exact Src.flatv Tx.len Tx.one (Vw.pick 0 rfl (vw_subF Vw.row Tx.len (Nat.zero_le _) hkl hsh.2)) | exact Src.flatv Tx.len Tx.one (Vw.pick 1 rfl (vw_subF Vw.row Tx.len (Nat.zero_le _) hkl hsh.2)) | exact Src.flatv Tx.len Tx.one (Vw.pick 2 rfl (vw_subF Vw.row Tx.len (Nat.zero_le _) hkl hsh.2)) | exact Src.flatv Tx.len Tx.one (Vw.pick 3 rfl (vw_subF Vw.row Tx.len (Nat.zero_le _) hkl hsh.2)) | exact Src.flatv Tx.len Tx.one (Vw.pick 4 rfl (vw_subF Vw.row Tx.len (Nat.zero_le _) hkl hsh.2)) | exact Src.flatv Tx.len Tx.one (Vw.pick 5 rfl (vw_subF Vw.row Tx.len (Nat.zero_le _) hkl hsh.2)) | exact Src.flatv Tx.len Tx.one (Vw.pick 6 rfl (vw_subF Vw.row Tx.len (Nat.zero_le _) hkl hsh.2)) | exact Src.flatv Tx.len Tx.one (Vw.pick 7 rfl (vw_subF Vw.row Tx.len (Nat.zero_le _) hkl hsh.2)) | exact Src.flatv Tx.len Tx.one (Vw.pick 8 rfl (vw_subF Vw.row Tx.len (Nat.zero_le _) hkl hsh.2)) | exact Src.flatv Tx.len Tx.one (Vw.pick 0 rfl (vw_subF Vw.row Tx.len hkl (Nat.le_refl _) hsh.2)) | exact Src.flatv Tx.len Tx.one (Vw.pick 1 rfl (vw_subF Vw.row Tx.len hkl (Nat.le_refl _) hsh.2)) | exact Src.flatv Tx.len Tx.one (Vw.pick 2 rfl (vw_subF Vw.row Tx.len hkl (Nat.le_refl _) hsh.2)) | exact Src.flatv Tx.len Tx.one (Vw.pick 3 rfl (vw_subF Vw.row Tx.len hkl (Nat.le_refl _) hsh.2)) | exact Src.flatv Tx.len Tx.one (Vw.pick 4 rfl (vw_subF Vw.row Tx.len hkl (Nat.le_refl _) hsh.2)) | exact Src.flatv Tx.len Tx.one (Vw.pick 5 rfl (vw_subF Vw.row Tx.len hkl (Nat.le_refl _) hsh.2)) | exact Src.flatv Tx.len Tx.one (Vw.pick 6 rfl (vw_subF Vw.row Tx.len hkl (Nat.le_refl _) hsh.2)) | exact Src.flatv Tx.len Tx.one (Vw.pick 7 rfl (vw_subF Vw.row Tx.len hkl (Nat.le_refl _) hsh.2)) | exact Src.flatv Tx.len Tx.one (Vw.pick 8 rfl (vw_subF Vw.row Tx.len hkl (Nat.le_refl _) hsh.2)) | exact Src.flatv Tx.len Tx.one (Vw.pick 0 rfl Vw.row) | exact Src.flatv Tx.len Tx.one (Vw.pick 1 rfl Vw.row) | exact Src.flatv Tx.len Tx.one (Vw.pick 2 rfl Vw.row) | exact Src.flatv Tx.len Tx.one (Vw.pick 3 rfl Vw.row) | exact Src.flatv Tx.len Tx.one (Vw.pick 4 rfl Vw.row) | exact Src.flatv Tx.len Tx.one (Vw.pick 5 rfl Vw.row) | exact Src.flatv Tx.len Tx.one (Vw.pick 6 rfl Vw.row) | exact Src.flatv Tx.len Tx.one (Vw.pick 7 rfl Vw.row) | exact Src.flatv Tx.len Tx.one (Vw.pick 8 rfl Vw.row)) (by simp only [List.length_take, List.length_drop, List.length_nil]; omega) (by simp only [List.length_take, List.length_drop, List.length_nil]; omega)) rfl ?_
                rintro _ _ ⟨p67, c67, rfl, hn67, rfl⟩
                simp only [List.set_cons_zero, List.set_cons_succ, List.nil_append]
                rw [show (nm.drop 0).take (k - 0) = nm.take k from by simp]
                refine any_eff' (i := 5) (by kernel_rfl) rfl rfl (eff_lit sl24 rfl (sbld (cs := txs dws) [(.string ByteArray.empty), (.string ByteArray.empty), (.string ByteArray.empty), (.string ByteArray.empty)] sl24 (by decide) (by kernel_rfl) rfl) rfl (by decide)) rfl ?_
                rintro _ _ ⟨b68, rfl, rfl⟩
                refine any_lock 0 rfl ?_
                simp only [List.eraseIdx_cons_zero, List.eraseIdx_cons_succ]
                refine any_ro' (i := 8) (by kernel_rfl) rfl rfl (ro_indexSlice sl24 rfl rfl rfl (by omega)) rfl (fun _ _ _ h => h) ?_
                refine any_ro' (i := 9) (by kernel_rfl) rfl rfl (ro_load sc9 rfl (Rd.pick 0 rfl (Rd.elem (j := 0) (RdN.row) Tx.len hws rfl))) rfl (fun _ _ _ h => h) ?_
                refine any_eff' (i := 10) (by kernel_rfl) rfl rfl (eff_lit sl24 rfl (sbld (cs := txs [wd]) [(.string ByteArray.empty)] sl24 (by decide) (by kernel_rfl) rfl) rfl (by decide)) rfl ?_
                rintro _ _ ⟨b73, rfl, rfl⟩
                refine any_eff' (i := 11) (by kernel_rfl) rfl rfl (eff_appF (f := Tx.cs) (l2 := [wd]) 1 sl24 (.inl ⟨9, Tryd.underlying24⟩) rfl rfl rfl (by first | exact Src.flatv Tx.len Tx.one (Vw.pick 0 rfl (vw_subF Vw.row Tx.len (Nat.zero_le _) hkl hsh.2)) | exact Src.flatv Tx.len Tx.one (Vw.pick 1 rfl (vw_subF Vw.row Tx.len (Nat.zero_le _) hkl hsh.2)) | exact Src.flatv Tx.len Tx.one (Vw.pick 2 rfl (vw_subF Vw.row Tx.len (Nat.zero_le _) hkl hsh.2)) | exact Src.flatv Tx.len Tx.one (Vw.pick 3 rfl (vw_subF Vw.row Tx.len (Nat.zero_le _) hkl hsh.2)) | exact Src.flatv Tx.len Tx.one (Vw.pick 4 rfl (vw_subF Vw.row Tx.len (Nat.zero_le _) hkl hsh.2)) | exact Src.flatv Tx.len Tx.one (Vw.pick 5 rfl (vw_subF Vw.row Tx.len (Nat.zero_le _) hkl hsh.2)) | exact Src.flatv Tx.len Tx.one (Vw.pick 6 rfl (vw_subF Vw.row Tx.len (Nat.zero_le _) hkl hsh.2)) | exact Src.flatv Tx.len Tx.one (Vw.pick 7 rfl (vw_subF Vw.row Tx.len (Nat.zero_le _) hkl hsh.2)) | exact Src.flatv Tx.len Tx.one (Vw.pick 8 rfl (vw_subF Vw.row Tx.len (Nat.zero_le _) hkl hsh.2)) | exact Src.flatv Tx.len Tx.one (Vw.pick 0 rfl (vw_subF Vw.row Tx.len hkl (Nat.le_refl _) hsh.2)) | exact Src.flatv Tx.len Tx.one (Vw.pick 1 rfl (vw_subF Vw.row Tx.len hkl (Nat.le_refl _) hsh.2)) | exact Src.flatv Tx.len Tx.one (Vw.pick 2 rfl (vw_subF Vw.row Tx.len hkl (Nat.le_refl _) hsh.2)) | exact Src.flatv Tx.len Tx.one (Vw.pick 3 rfl (vw_subF Vw.row Tx.len hkl (Nat.le_refl _) hsh.2)) | exact Src.flatv Tx.len Tx.one (Vw.pick 4 rfl (vw_subF Vw.row Tx.len hkl (Nat.le_refl _) hsh.2)) | exact Src.flatv Tx.len Tx.one (Vw.pick 5 rfl (vw_subF Vw.row Tx.len hkl (Nat.le_refl _) hsh.2)) | exact Src.flatv Tx.len Tx.one (Vw.pick 6 rfl (vw_subF Vw.row Tx.len hkl (Nat.le_refl _) hsh.2)) | exact Src.flatv Tx.len Tx.one (Vw.pick 7 rfl (vw_subF Vw.row Tx.len hkl (Nat.le_refl _) hsh.2)) | exact Src.flatv Tx.len Tx.one (Vw.pick 8 rfl (vw_subF Vw.row Tx.len hkl (Nat.le_refl _) hsh.2)) | exact Src.flatv Tx.len Tx.one (Vw.pick 0 rfl Vw.row) | exact Src.flatv Tx.len Tx.one (Vw.pick 1 rfl Vw.row) | exact Src.flatv Tx.len Tx.one (Vw.pick 2 rfl Vw.row) | exact Src.flatv Tx.len Tx.one (Vw.pick 3 rfl Vw.row) | exact Src.flatv Tx.len Tx.one (Vw.pick 4 rfl Vw.row) | exact Src.flatv Tx.len Tx.one (Vw.pick 5 rfl Vw.row) | exact Src.flatv Tx.len Tx.one (Vw.pick 6 rfl Vw.row) | exact Src.flatv Tx.len Tx.one (Vw.pick 7 rfl Vw.row) | exact Src.flatv Tx.len Tx.one (Vw.pick 8 rfl Vw.row)) (by simp only [List.length_take, List.length_cons, List.length_nil]; omega) (by simp only [List.length_take, List.length_cons, List.length_nil]; omega)) rfl ?_
                rintro _ _ ⟨p74, c74, rfl, hn74, rfl⟩
                simp only [List.set_cons_zero, List.set_cons_succ]
                refine any_eff' (i := 15) (by kernel_rfl) rfl rfl (eff_appF (f := Tx.cs) (l2 := (nm.drop k).take (nm.length - k)) 1 sl24 (.inl ⟨9, Tryd.underlying24⟩) rfl rfl rfl (by first | exact Src.flatv Tx.len Tx.one (Vw.pick 0 rfl (vw_subF Vw.row Tx.len (Nat.zero_le _) hkl hsh.2)) | exact Src.flatv Tx.len Tx.one (Vw.pick 1 rfl (vw_subF Vw.row Tx.len (Nat.zero_le _) hkl hsh.2)) | exact Src.flatv Tx.len Tx.one (Vw.pick 2 rfl (vw_subF Vw.row Tx.len (Nat.zero_le _) hkl hsh.2)) | exact Src.flatv Tx.len Tx.one (Vw.pick 3 rfl (vw_subF Vw.row Tx.len (Nat.zero_le _) hkl hsh.2)) | exact Src.flatv Tx.len Tx.one (Vw.pick 4 rfl (vw_subF Vw.row Tx.len (Nat.zero_le _) hkl hsh.2)) | exact Src.flatv Tx.len Tx.one (Vw.pick 5 rfl (vw_subF Vw.row Tx.len (Nat.zero_le _) hkl hsh.2)) | exact Src.flatv Tx.len Tx.one (Vw.pick 6 rfl (vw_subF Vw.row Tx.len (Nat.zero_le _) hkl hsh.2)) | exact Src.flatv Tx.len Tx.one (Vw.pick 7 rfl (vw_subF Vw.row Tx.len (Nat.zero_le _) hkl hsh.2)) | exact Src.flatv Tx.len Tx.one (Vw.pick 8 rfl (vw_subF Vw.row Tx.len (Nat.zero_le _) hkl hsh.2)) | exact Src.flatv Tx.len Tx.one (Vw.pick 0 rfl (vw_subF Vw.row Tx.len hkl (Nat.le_refl _) hsh.2)) | exact Src.flatv Tx.len Tx.one (Vw.pick 1 rfl (vw_subF Vw.row Tx.len hkl (Nat.le_refl _) hsh.2)) | exact Src.flatv Tx.len Tx.one (Vw.pick 2 rfl (vw_subF Vw.row Tx.len hkl (Nat.le_refl _) hsh.2)) | exact Src.flatv Tx.len Tx.one (Vw.pick 3 rfl (vw_subF Vw.row Tx.len hkl (Nat.le_refl _) hsh.2)) | exact Src.flatv Tx.len Tx.one (Vw.pick 4 rfl (vw_subF Vw.row Tx.len hkl (Nat.le_refl _) hsh.2)) | exact Src.flatv Tx.len Tx.one (Vw.pick 5 rfl (vw_subF Vw.row Tx.len hkl (Nat.le_refl _) hsh.2)) | exact Src.flatv Tx.len Tx.one (Vw.pick 6 rfl (vw_subF Vw.row Tx.len hkl (Nat.le_refl _) hsh.2)) | exact Src.flatv Tx.len Tx.one (Vw.pick 7 rfl (vw_subF Vw.row Tx.len hkl (Nat.le_refl _) hsh.2)) | exact Src.flatv Tx.len Tx.one (Vw.pick 8 rfl (vw_subF Vw.row Tx.len hkl (Nat.le_refl _) hsh.2)) | exact Src.flatv Tx.len Tx.one (Vw.pick 0 rfl Vw.row) | exact Src.flatv Tx.len Tx.one (Vw.pick 1 rfl Vw.row) | exact Src.flatv Tx.len Tx.one (Vw.pick 2 rfl Vw.row) | exact Src.flatv Tx.len Tx.one (Vw.pick 3 rfl Vw.row) | exact Src.flatv Tx.len Tx.one (Vw.pick 4 rfl Vw.row) | exact Src.flatv Tx.len Tx.one (Vw.pick 5 rfl Vw.row) | exact Src.flatv Tx.len Tx.one (Vw.pick 6 rfl Vw.row) | exact Src.flatv Tx.len Tx.one (Vw.pick 7 rfl Vw.row) | exact Src.flatv Tx.len Tx.one (Vw.pick 8 rfl Vw.row)) (by simp only [List.length_append, List.length_take, List.length_drop, List.length_cons, List.length_nil]; omega) (by simp only [List.length_append, List.length_take, List.length_drop, List.length_cons, List.length_nil]; omega)) rfl ?_
                rintro _ _ ⟨p78, c78, rfl, hn78, rfl⟩
                simp only [List.set_cons_zero, List.set_cons_succ]
                rw [show (nm.drop k).take (nm.length - k) = nm.drop k from List.take_of_length_le (by simp)]
                refine any_unlock (m' := 17) (L' := []) (by kernel_rfl) unlock ?_
                simp only [List.cons_append, List.nil_append, List.append_nil]
                refine any_ro' (i := 16) (by kernel_rfl) rfl rfl (ro_assign rfl) rfl (fun _ _ _ h => h) ?_
                refine any_doneH (by kernel_rfl) ?_
                refine Then_normal ?_
                refine over_cut (kept ⟨wd, p78, c78, ⟨hwl, hwr⟩, rfl, rfl⟩ ?_ ?_ ?_)
                · exact (by repeat (first | exact Has.nil _ | refine Has.cons rfl ?_))
                · exact (by repeat (first | exact Has.nil _ | refine Has.cons rfl ?_))
                · exact (SubH.cons 2 rfl (SubH.cons 2 rfl (SubH.cons 2 rfl (SubH.nil _))))
              · refine at_eff' rfl rfl (eff_lit sl24 rfl (sbld (cs := txs dws) [(.string ByteArray.empty), (.string ByteArray.empty), (.string ByteArray.empty), (.string ByteArray.empty)] sl24 (by decide) (by kernel_rfl) rfl) rfl (by decide)) rfl ?_
                rintro _ _ ⟨b68, rfl, rfl⟩
                refine any_lock 0 rfl ?_
                simp only [List.eraseIdx_cons_zero, List.eraseIdx_cons_succ]
                refine any_ro' (i := 8) (by kernel_rfl) rfl rfl (ro_indexSlice sl24 rfl rfl rfl (by omega)) rfl (fun _ _ _ h => h) ?_
                refine any_ro' (i := 9) (by kernel_rfl) rfl rfl (ro_load sc9 rfl (Rd.pick 0 rfl (Rd.elem (j := 0) (RdN.row) Tx.len hws rfl))) rfl (fun _ _ _ h => h) ?_
                refine any_two (i := 4) (j := 10) (by kernel_rfl) ?_ ?_
                · refine at_eff' rfl rfl (eff_appF (f := Tx.cs) (l := []) (l2 := (nm.drop 0).take (k - 0)) 0 sl24 (.inl ⟨9, Tryd.underlying24⟩) rfl rfl rfl (by first | exact Src.flatv Tx.len Tx.one (Vw.pick 0 rfl (vw_subF Vw.row Tx.len (Nat.zero_le _) hkl hsh.2)) | exact Src.flatv Tx.len Tx.one (Vw.pick 1 rfl (vw_subF Vw.row Tx.len (Nat.zero_le _) hkl hsh.2)) | exact Src.flatv Tx.len Tx.one (Vw.pick 2 rfl (vw_subF Vw.row Tx.len (Nat.zero_le _) hkl hsh.2)) | exact Src.flatv Tx.len Tx.one (Vw.pick 3 rfl (vw_subF Vw.row Tx.len (Nat.zero_le _) hkl hsh.2)) | exact Src.flatv Tx.len Tx.one (Vw.pick 4 rfl (vw_subF Vw.row Tx.len (Nat.zero_le _) hkl hsh.2)) | exact Src.flatv Tx.len Tx.one (Vw.pick 5 rfl (vw_subF Vw.row Tx.len (Nat.zero_le _) hkl hsh.2)) | exact Src.flatv Tx.len Tx.one (Vw.pick 6 rfl (vw_subF Vw.row Tx.len (Nat.zero_le _) hkl hsh.2)) | exact Src.flatv Tx.len Tx.one (Vw.pick 7 rfl (vw_subF Vw.row Tx.len (Nat.zero_le _) hkl hsh.2)) | exact Src.flatv Tx.len Tx.one (Vw.pick 8 rfl (vw_subF Vw.row Tx.len (Nat.zero_le _) hkl hsh.2)) | exact Src.flatv Tx.len Tx.one (Vw.pick 0 rfl (vw_subF Vw.row Tx.len hkl (Nat.le_refl _) hsh.2)) | exact Src.flatv Tx.len Tx.one (Vw.pick 1 rfl (vw_subF Vw.row Tx.len hkl (Nat.le_refl _) hsh.2)) | exact Src.flatv Tx.len Tx.one (Vw.pick 2 rfl (vw_subF Vw.row Tx.len hkl (Nat.le_refl _) hsh.2)) | exact Src.flatv Tx.len Tx.one (Vw.pick 3 rfl (vw_subF Vw.row Tx.len hkl (Nat.le_refl _) hsh.2)) | exact Src.flatv Tx.len Tx.one (Vw.pick 4 rfl (vw_subF Vw.row Tx.len hkl (Nat.le_refl _) hsh.2)) | exact Src.flatv Tx.len Tx.one (Vw.pick 5 rfl (vw_subF Vw.row Tx.len hkl (Nat.le_refl _) hsh.2)) | exact Src.flatv Tx.len Tx.one (Vw.pick 6 rfl (vw_subF Vw.row Tx.len hkl (Nat.le_refl _) hsh.2)) | exact Src.flatv Tx.len Tx.one (Vw.pick 7 rfl (vw_subF Vw.row Tx.len hkl (Nat.le_refl _) hsh.2)) | exact Src.flatv Tx.len Tx.one (Vw.pick 8 rfl (vw_subF Vw.row Tx.len hkl (Nat.le_refl _) hsh.2)) | exact Src.flatv Tx.len Tx.one (Vw.pick 0 rfl Vw.row) | exact Src.flatv Tx.len Tx.one (Vw.pick 1 rfl Vw.row) | exact Src.flatv Tx.len Tx.one (Vw.pick 2 rfl Vw.row) | exact Src.flatv Tx.len Tx.one (Vw.pick 3 rfl Vw.row) | exact Src.flatv Tx.len Tx.one (Vw.pick 4 rfl Vw.row) | exact Src.flatv Tx.len Tx.one (Vw.pick 5 rfl Vw.row) | exact Src.flatv Tx.len Tx.one (Vw.pick 6 rfl Vw.row) | exact Src.flatv Tx.len Tx.one (Vw.pick 7 rfl Vw.row) | exact Src.flatv Tx.len Tx.one (Vw.pick 8 rfl Vw.row)) (by simp only [List.length_take, List.length_drop, List.length_nil]; omega) (by simp only [List.length_take, List.length_drop, List.length_nil]; omega)) rfl ?_
                  rintro _ _ ⟨p67, c67, rfl, hn67, rfl⟩
                  simp only [List.set_cons_zero, List.set_cons_succ, List.nil_append]
                  rw [show (nm.drop 0).take (k - 0) = nm.take k from by simp]
                  refine any_eff' (i := 10) (by kernel_rfl) rfl rfl (eff_lit sl24 rfl (sbld (cs := txs [wd]) [(.string ByteArray.empty)] sl24 (by decide) (by kernel_rfl) rfl) rfl (by decide)) rfl ?_
                  rintro _ _ ⟨b73, rfl, rfl⟩
                  refine any_eff' (i := 11) (by kernel_rfl) rfl rfl (eff_appF (f := Tx.cs) (l2 := [wd]) 1 sl24 (.inl ⟨9, Tryd.underlying24⟩) rfl rfl rfl (by first | exact Src.flatv Tx.len Tx.one (Vw.pick 0 rfl (vw_subF Vw.row Tx.len (Nat.zero_le _) hkl hsh.2)) | exact Src.flatv Tx.len Tx.one (Vw.pick 1 rfl (vw_subF Vw.row Tx.len (Nat.zero_le _) hkl hsh.2)) | exact Src.flatv Tx.len Tx.one (Vw.pick 2 rfl (vw_subF Vw.row Tx.len (Nat.zero_le _) hkl hsh.2)) | exact Src.flatv Tx.len Tx.one (Vw.pick 3 rfl (vw_subF Vw.row Tx.len (Nat.zero_le _) hkl hsh.2)) | exact Src.flatv Tx.len Tx.one (Vw.pick 4 rfl (vw_subF Vw.row Tx.len (Nat.zero_le _) hkl hsh.2)) | exact Src.flatv Tx.len Tx.one (Vw.pick 5 rfl (vw_subF Vw.row Tx.len (Nat.zero_le _) hkl hsh.2)) | exact Src.flatv Tx.len Tx.one (Vw.pick 6 rfl (vw_subF Vw.row Tx.len (Nat.zero_le _) hkl hsh.2)) | exact Src.flatv Tx.len Tx.one (Vw.pick 7 rfl (vw_subF Vw.row Tx.len (Nat.zero_le _) hkl hsh.2)) | exact Src.flatv Tx.len Tx.one (Vw.pick 8 rfl (vw_subF Vw.row Tx.len (Nat.zero_le _) hkl hsh.2)) | exact Src.flatv Tx.len Tx.one (Vw.pick 0 rfl (vw_subF Vw.row Tx.len hkl (Nat.le_refl _) hsh.2)) | exact Src.flatv Tx.len Tx.one (Vw.pick 1 rfl (vw_subF Vw.row Tx.len hkl (Nat.le_refl _) hsh.2)) | exact Src.flatv Tx.len Tx.one (Vw.pick 2 rfl (vw_subF Vw.row Tx.len hkl (Nat.le_refl _) hsh.2)) | exact Src.flatv Tx.len Tx.one (Vw.pick 3 rfl (vw_subF Vw.row Tx.len hkl (Nat.le_refl _) hsh.2)) | exact Src.flatv Tx.len Tx.one (Vw.pick 4 rfl (vw_subF Vw.row Tx.len hkl (Nat.le_refl _) hsh.2)) | exact Src.flatv Tx.len Tx.one (Vw.pick 5 rfl (vw_subF Vw.row Tx.len hkl (Nat.le_refl _) hsh.2)) | exact Src.flatv Tx.len Tx.one (Vw.pick 6 rfl (vw_subF Vw.row Tx.len hkl (Nat.le_refl _) hsh.2)) | exact Src.flatv Tx.len Tx.one (Vw.pick 7 rfl (vw_subF Vw.row Tx.len hkl (Nat.le_refl _) hsh.2)) | exact Src.flatv Tx.len Tx.one (Vw.pick 8 rfl (vw_subF Vw.row Tx.len hkl (Nat.le_refl _) hsh.2)) | exact Src.flatv Tx.len Tx.one (Vw.pick 0 rfl Vw.row) | exact Src.flatv Tx.len Tx.one (Vw.pick 1 rfl Vw.row) | exact Src.flatv Tx.len Tx.one (Vw.pick 2 rfl Vw.row) | exact Src.flatv Tx.len Tx.one (Vw.pick 3 rfl Vw.row) | exact Src.flatv Tx.len Tx.one (Vw.pick 4 rfl Vw.row) | exact Src.flatv Tx.len Tx.one (Vw.pick 5 rfl Vw.row) | exact Src.flatv Tx.len Tx.one (Vw.pick 6 rfl Vw.row) | exact Src.flatv Tx.len Tx.one (Vw.pick 7 rfl Vw.row) | exact Src.flatv Tx.len Tx.one (Vw.pick 8 rfl Vw.row)) (by simp only [List.length_take, List.length_cons, List.length_nil]; omega) (by simp only [List.length_take, List.length_cons, List.length_nil]; omega)) rfl ?_
                  rintro _ _ ⟨p74, c74, rfl, hn74, rfl⟩
                  simp only [List.set_cons_zero, List.set_cons_succ]
                  refine any_eff' (i := 15) (by kernel_rfl) rfl rfl (eff_appF (f := Tx.cs) (l2 := (nm.drop k).take (nm.length - k)) 1 sl24 (.inl ⟨9, Tryd.underlying24⟩) rfl rfl rfl (by first | exact Src.flatv Tx.len Tx.one (Vw.pick 0 rfl (vw_subF Vw.row Tx.len (Nat.zero_le _) hkl hsh.2)) | exact Src.flatv Tx.len Tx.one (Vw.pick 1 rfl (vw_subF Vw.row Tx.len (Nat.zero_le _) hkl hsh.2)) | exact Src.flatv Tx.len Tx.one (Vw.pick 2 rfl (vw_subF Vw.row Tx.len (Nat.zero_le _) hkl hsh.2)) | exact Src.flatv Tx.len Tx.one (Vw.pick 3 rfl (vw_subF Vw.row Tx.len (Nat.zero_le _) hkl hsh.2)) | exact Src.flatv Tx.len Tx.one (Vw.pick 4 rfl (vw_subF Vw.row Tx.len (Nat.zero_le _) hkl hsh.2)) | exact Src.flatv Tx.len Tx.one (Vw.pick 5 rfl (vw_subF Vw.row Tx.len (Nat.zero_le _) hkl hsh.2)) | exact Src.flatv Tx.len Tx.one (Vw.pick 6 rfl (vw_subF Vw.row Tx.len (Nat.zero_le _) hkl hsh.2)) | exact Src.flatv Tx.len Tx.one (Vw.pick 7 rfl (vw_subF Vw.row Tx.len (Nat.zero_le _) hkl hsh.2)) | exact Src.flatv Tx.len Tx.one (Vw.pick 8 rfl (vw_subF Vw.row Tx.len (Nat.zero_le _) hkl hsh.2)) | exact Src.flatv Tx.len Tx.one (Vw.pick 0 rfl (vw_subF Vw.row Tx.len hkl (Nat.le_refl _) hsh.2)) | exact Src.flatv Tx.len Tx.one (Vw.pick 1 rfl (vw_subF Vw.row Tx.len hkl (Nat.le_refl _) hsh.2)) | exact Src.flatv Tx.len Tx.one (Vw.pick 2 rfl (vw_subF Vw.row Tx.len hkl (Nat.le_refl _) hsh.2)) | exact Src.flatv Tx.len Tx.one (Vw.pick 3 rfl (vw_subF Vw.row Tx.len hkl (Nat.le_refl _) hsh.2)) | exact Src.flatv Tx.len Tx.one (Vw.pick 4 rfl (vw_subF Vw.row Tx.len hkl (Nat.le_refl _) hsh.2)) | exact Src.flatv Tx.len Tx.one (Vw.pick 5 rfl (vw_subF Vw.row Tx.len hkl (Nat.le_refl _) hsh.2)) | exact Src.flatv Tx.len Tx.one (Vw.pick 6 rfl (vw_subF Vw.row Tx.len hkl (Nat.le_refl _) hsh.2)) | exact Src.flatv Tx.len Tx.one (Vw.pick 7 rfl (vw_subF Vw.row Tx.len hkl (Nat.le_refl _) hsh.2)) | exact Src.flatv Tx.len Tx.one (Vw.pick 8 rfl (vw_subF Vw.row Tx.len hkl (Nat.le_refl _) hsh.2)) | exact Src.flatv Tx.len Tx.one (Vw.pick 0 rfl Vw.row) | exact Src.flatv Tx.len Tx.one (Vw.pick 1 rfl Vw.row) | exact Src.flatv Tx.len Tx.one (Vw.pick 2 rfl Vw.row) | exact Src.flatv Tx.len Tx.one (Vw.pick 3 rfl Vw.row) | exact Src.flatv Tx.len Tx.one (Vw.pick 4 rfl Vw.row) | exact Src.flatv Tx.len Tx.one (Vw.pick 5 rfl Vw.row) | exact Src.flatv Tx.len Tx.one (Vw.pick 6 rfl Vw.row) | exact Src.flatv Tx.len Tx.one (Vw.pick 7 rfl Vw.row) | exact Src.flatv Tx.len Tx.one (Vw.pick 8 rfl Vw.row)) (by simp only [List.length_append, List.length_take, List.length_drop, List.length_cons, List.length_nil]; omega) (by simp only [List.length_append, List.length_take, List.length_drop, List.length_cons, List.length_nil]; omega)) rfl ?_
                  rintro _ _ ⟨p78, c78, rfl, hn78, rfl⟩
                  simp only [List.set_cons_zero, List.set_cons_succ]
                  rw [show (nm.drop k).take (nm.length - k) = nm.drop k from List.take_of_length_le (by simp)]
                  refine any_unlock (m' := 17) (L' := []) (by kernel_rfl) unlock ?_
                  simp only [List.cons_append, List.nil_append, List.append_nil]
                  refine any_ro' (i := 16) (by kernel_rfl) rfl rfl (ro_assign rfl) rfl (fun _ _ _ h => h) ?_
                  refine any_doneH (by kernel_rfl) ?_
                  refine Then_normal ?_
                  refine over_cut (kept ⟨wd, p78, c78, ⟨hwl, hwr⟩, rfl, rfl⟩ ?_ ?_ ?_)
                  · exact (by repeat (first | exact Has.nil _ | refine Has.cons rfl ?_))
                  · exact (by repeat (first | exact Has.nil _ | refine Has.cons rfl ?_))
                  · exact (SubH.cons 2 rfl (SubH.cons 2 rfl (SubH.cons 2 rfl (SubH.nil _))))
                · refine at_eff' rfl rfl (eff_lit sl24 rfl (sbld (cs := txs [wd]) [(.string ByteArray.empty)] sl24 (by decide) (by kernel_rfl) rfl) rfl (by decide)) rfl ?_
                  rintro _ _ ⟨b73, rfl, rfl⟩
                  refine any_eff' (i := 4) (by kernel_rfl) rfl rfl (eff_appF (f := Tx.cs) (l := []) (l2 := (nm.drop 0).take (k - 0)) 1 sl24 (.inl ⟨9, Tryd.underlying24⟩) rfl rfl rfl (by first | exact Src.flatv Tx.len Tx.one (Vw.pick 0 rfl (vw_subF Vw.row Tx.len (Nat.zero_le _) hkl hsh.2)) | exact Src.flatv Tx.len Tx.one (Vw.pick 1 rfl (vw_subF Vw.row Tx.len (Nat.zero_le _) hkl hsh.2)) | exact Src.flatv Tx.len Tx.one (Vw.pick 2 rfl (vw_subF Vw.row Tx.len (Nat.zero_le _) hkl hsh.2)) | exact Src.flatv Tx.len Tx.one (Vw.pick 3 rfl (vw_subF Vw.row Tx.len (Nat.zero_le _) hkl hsh.2)) | exact Src.flatv Tx.len Tx.one (Vw.pick 4 rfl (vw_subF Vw.row Tx.len (Nat.zero_le _) hkl hsh.2)) | exact Src.flatv Tx.len Tx.one (Vw.pick 5 rfl (vw_subF Vw.row Tx.len (Nat.zero_le _) hkl hsh.2)) | exact Src.flatv Tx.len Tx.one (Vw.pick 6 rfl (vw_subF Vw.row Tx.len (Nat.zero_le _) hkl hsh.2)) | exact Src.flatv Tx.len Tx.one (Vw.pick 7 rfl (vw_subF Vw.row Tx.len (Nat.zero_le _) hkl hsh.2)) | exact Src.flatv Tx.len Tx.one (Vw.pick 8 rfl (vw_subF Vw.row Tx.len (Nat.zero_le _) hkl hsh.2)) | exact Src.flatv Tx.len Tx.one (Vw.pick 0 rfl (vw_subF Vw.row Tx.len hkl (Nat.le_refl _) hsh.2)) | exact Src.flatv Tx.len Tx.one (Vw.pick 1 rfl (vw_subF Vw.row Tx.len hkl (Nat.le_refl _) hsh.2)) | exact Src.flatv Tx.len Tx.one (Vw.pick 2 rfl (vw_subF Vw.row Tx.len hkl (Nat.le_refl _) hsh.2)) | exact Src.flatv Tx.len Tx.one (Vw.pick 3 rfl (vw_subF Vw.row Tx.len hkl (Nat.le_refl _) hsh.2)) | exact Src.flatv Tx.len Tx.one (Vw.pick 4 rfl (vw_subF Vw.row Tx.len hkl (Nat.le_refl _) hsh.2)) | exact Src.flatv Tx.len Tx.one (Vw.pick 5 rfl (vw_subF Vw.row Tx.len hkl (Nat.le_refl _) hsh.2)) | exact Src.flatv Tx.len Tx.one (Vw.pick 6 rfl (vw_subF Vw.row Tx.len hkl (Nat.le_refl _) hsh.2)) | exact Src.flatv Tx.len Tx.one (Vw.pick 7 rfl (vw_subF Vw.row Tx.len hkl (Nat.le_refl _) hsh.2)) | exact Src.flatv Tx.len Tx.one (Vw.pick 8 rfl (vw_subF Vw.row Tx.len hkl (Nat.le_refl _) hsh.2)) | exact Src.flatv Tx.len Tx.one (Vw.pick 0 rfl Vw.row) | exact Src.flatv Tx.len Tx.one (Vw.pick 1 rfl Vw.row) | exact Src.flatv Tx.len Tx.one (Vw.pick 2 rfl Vw.row) | exact Src.flatv Tx.len Tx.one (Vw.pick 3 rfl Vw.row) | exact Src.flatv Tx.len Tx.one (Vw.pick 4 rfl Vw.row) | exact Src.flatv Tx.len Tx.one (Vw.pick 5 rfl Vw.row) | exact Src.flatv Tx.len Tx.one (Vw.pick 6 rfl Vw.row) | exact Src.flatv Tx.len Tx.one (Vw.pick 7 rfl Vw.row) | exact Src.flatv Tx.len Tx.one (Vw.pick 8 rfl Vw.row)) (by simp only [List.length_take, List.length_drop, List.length_nil]; omega) (by simp only [List.length_take, List.length_drop, List.length_nil]; omega)) rfl ?_
                  rintro _ _ ⟨p67, c67, rfl, hn67, rfl⟩
                  simp only [List.set_cons_zero, List.set_cons_succ, List.nil_append]
                  rw [show (nm.drop 0).take (k - 0) = nm.take k from by simp]
                  refine any_eff' (i := 11) (by kernel_rfl) rfl rfl (eff_appF (f := Tx.cs) (l2 := [wd]) 1 sl24 (.inl ⟨9, Tryd.underlying24⟩) rfl rfl rfl (by first | exact Src.flatv Tx.len Tx.one (Vw.pick 0 rfl (vw_subF Vw.row Tx.len (Nat.zero_le _) hkl hsh.2)) | exact Src.flatv Tx.len Tx.one (Vw.pick 1 rfl (vw_subF Vw.row Tx.len (Nat.zero_le _) hkl hsh.2)) | exact Src.flatv Tx.len Tx.one (Vw.pick 2 rfl (vw_subF Vw.row Tx.len (Nat.zero_le _) hkl hsh.2)) | exact Src.flatv Tx.len Tx.one (Vw.pick 3 rfl (vw_subF Vw.row Tx.len (Nat.zero_le _) hkl hsh.2)) | exact Src.flatv Tx.len Tx.one (Vw.pick 4 rfl (vw_subF Vw.row Tx.len (Nat.zero_le _) hkl hsh.2)) | exact Src.flatv Tx.len Tx.one (Vw.pick 5 rfl (vw_subF Vw.row Tx.len (Nat.zero_le _) hkl hsh.2)) | exact Src.flatv Tx.len Tx.one (Vw.pick 6 rfl (vw_subF Vw.row Tx.len (Nat.zero_le _) hkl hsh.2)) | exact Src.flatv Tx.len Tx.one (Vw.pick 7 rfl (vw_subF Vw.row Tx.len (Nat.zero_le _) hkl hsh.2)) | exact Src.flatv Tx.len Tx.one (Vw.pick 8 rfl (vw_subF Vw.row Tx.len (Nat.zero_le _) hkl hsh.2)) | exact Src.flatv Tx.len Tx.one (Vw.pick 0 rfl (vw_subF Vw.row Tx.len hkl (Nat.le_refl _) hsh.2)) | exact Src.flatv Tx.len Tx.one (Vw.pick 1 rfl (vw_subF Vw.row Tx.len hkl (Nat.le_refl _) hsh.2)) | exact Src.flatv Tx.len Tx.one (Vw.pick 2 rfl (vw_subF Vw.row Tx.len hkl (Nat.le_refl _) hsh.2)) | exact Src.flatv Tx.len Tx.one (Vw.pick 3 rfl (vw_subF Vw.row Tx.len hkl (Nat.le_refl _) hsh.2)) | exact Src.flatv Tx.len Tx.one (Vw.pick 4 rfl (vw_subF Vw.row Tx.len hkl (Nat.le_refl _) hsh.2)) | exact Src.flatv Tx.len Tx.one (Vw.pick 5 rfl (vw_subF Vw.row Tx.len hkl (Nat.le_refl _) hsh.2)) | exact Src.flatv Tx.len Tx.one (Vw.pick 6 rfl (vw_subF Vw.row Tx.len hkl (Nat.le_refl _) hsh.2)) | exact Src.flatv Tx.len Tx.one (Vw.pick 7 rfl (vw_subF Vw.row Tx.len hkl (Nat.le_refl _) hsh.2)) | exact Src.flatv Tx.len Tx.one (Vw.pick 8 rfl (vw_subF Vw.row Tx.len hkl (Nat.le_refl _) hsh.2)) | exact Src.flatv Tx.len Tx.one (Vw.pick 0 rfl Vw.row) | exact Src.flatv Tx.len Tx.one (Vw.pick 1 rfl Vw.row) | exact Src.flatv Tx.len Tx.one (Vw.pick 2 rfl Vw.row) | exact Src.flatv Tx.len Tx.one (Vw.pick 3 rfl Vw.row) | exact Src.flatv Tx.len Tx.one (Vw.pick 4 rfl Vw.row) | exact Src.flatv Tx.len Tx.one (Vw.pick 5 rfl Vw.row) | exact Src.flatv Tx.len Tx.one (Vw.pick 6 rfl Vw.row) | exact Src.flatv Tx.len Tx.one (Vw.pick 7 rfl Vw.row) | exact Src.flatv Tx.len Tx.one (Vw.pick 8 rfl Vw.row)) (by simp only [List.length_take, List.length_cons, List.length_nil]; omega) (by simp only [List.length_take, List.length_cons, List.length_nil]; omega)) rfl ?_
                  rintro _ _ ⟨p74, c74, rfl, hn74, rfl⟩
                  simp only [List.set_cons_zero, List.set_cons_succ]
                  refine any_eff' (i := 15) (by kernel_rfl) rfl rfl (eff_appF (f := Tx.cs) (l2 := (nm.drop k).take (nm.length - k)) 1 sl24 (.inl ⟨9, Tryd.underlying24⟩) rfl rfl rfl (by first | exact Src.flatv Tx.len Tx.one (Vw.pick 0 rfl (vw_subF Vw.row Tx.len (Nat.zero_le _) hkl hsh.2)) | exact Src.flatv Tx.len Tx.one (Vw.pick 1 rfl (vw_subF Vw.row Tx.len (Nat.zero_le _) hkl hsh.2)) | exact Src.flatv Tx.len Tx.one (Vw.pick 2 rfl (vw_subF Vw.row Tx.len (Nat.zero_le _) hkl hsh.2)) | exact Src.flatv Tx.len Tx.one (Vw.pick 3 rfl (vw_subF Vw.row Tx.len (Nat.zero_le _) hkl hsh.2)) | exact Src.flatv Tx.len Tx.one (Vw.pick 4 rfl (vw_subF Vw.row Tx.len (Nat.zero_le _) hkl hsh.2)) | exact Src.flatv Tx.len Tx.one (Vw.pick 5 rfl (vw_subF Vw.row Tx.len (Nat.zero_le _) hkl hsh.2)) | exact Src.flatv Tx.len Tx.one (Vw.pick 6 rfl (vw_subF Vw.row Tx.len (Nat.zero_le _) hkl hsh.2)) | exact Src.flatv Tx.len Tx.one (Vw.pick 7 rfl (vw_subF Vw.row Tx.len (Nat.zero_le _) hkl hsh.2)) | exact Src.flatv Tx.len Tx.one (Vw.pick 8 rfl (vw_subF Vw.row Tx.len (Nat.zero_le _) hkl hsh.2)) | exact Src.flatv Tx.len Tx.one (Vw.pick 0 rfl (vw_subF Vw.row Tx.len hkl (Nat.le_refl _) hsh.2)) | exact Src.flatv Tx.len Tx.one (Vw.pick 1 rfl (vw_subF Vw.row Tx.len hkl (Nat.le_refl _) hsh.2)) | exact Src.flatv Tx.len Tx.one (Vw.pick 2 rfl (vw_subF Vw.row Tx.len hkl (Nat.le_refl _) hsh.2)) | exact Src.flatv Tx.len Tx.one (Vw.pick 3 rfl (vw_subF Vw.row Tx.len hkl (Nat.le_refl _) hsh.2)) | exact Src.flatv Tx.len Tx.one (Vw.pick 4 rfl (vw_subF Vw.row Tx.len hkl (Nat.le_refl _) hsh.2)) | exact Src.flatv Tx.len Tx.one (Vw.pick 5 rfl (vw_subF Vw.row Tx.len hkl (Nat.le_refl _) hsh.2)) | exact Src.flatv Tx.len Tx.one (Vw.pick 6 rfl (vw_subF Vw.row Tx.len hkl (Nat.le_refl _) hsh.2)) | exact Src.flatv Tx.len Tx.one (Vw.pick 7 rfl (vw_subF Vw.row Tx.len hkl (Nat.le_refl _) hsh.2)) | exact Src.flatv Tx.len Tx.one (Vw.pick 8 rfl (vw_subF Vw.row Tx.len hkl (Nat.le_refl _) hsh.2)) | exact Src.flatv Tx.len Tx.one (Vw.pick 0 rfl Vw.row) | exact Src.flatv Tx.len Tx.one (Vw.pick 1 rfl Vw.row) | exact Src.flatv Tx.len Tx.one (Vw.pick 2 rfl Vw.row) | exact Src.flatv Tx.len Tx.one (Vw.pick 3 rfl Vw.row) | exact Src.flatv Tx.len Tx.one (Vw.pick 4 rfl Vw.row) | exact Src.flatv Tx.len Tx.one (Vw.pick 5 rfl Vw.row) | exact Src.flatv Tx.len Tx.one (Vw.pick 6 rfl Vw.row) | exact Src.flatv Tx.len Tx.one (Vw.pick 7 rfl Vw.row) | exact Src.flatv Tx.len Tx.one (Vw.pick 8 rfl Vw.row)) (by simp only [List.length_append, List.length_take, List.length_drop, List.length_cons, List.length_nil]; omega) (by simp only [List.length_append, List.length_take, List.length_drop, List.length_cons, List.length_nil]; omega)) rfl ?_
                  rintro _ _ ⟨p78, c78, rfl, hn78, rfl⟩
                  simp only [List.set_cons_zero, List.set_cons_succ]
                  rw [show (nm.drop k).take (nm.length - k) = nm.drop k from List.take_of_length_le (by simp)]
                  refine any_unlock (m' := 17) (L' := []) (by kernel_rfl) unlock ?_
                  simp only [List.cons_append, List.nil_append, List.append_nil]
                  refine any_ro' (i := 16) (by kernel_rfl) rfl rfl (ro_assign rfl) rfl (fun _ _ _ h => h) ?_
                  refine any_doneH (by kernel_rfl) ?_
                  refine Then_normal ?_
                  refine over_cut (kept ⟨wd, p78, c78, ⟨hwl, hwr⟩, rfl, rfl⟩ ?_ ?_ ?_)
                  · exact (by repeat (first | exact Has.nil _ | refine Has.cons rfl ?_))
                  · exact (by repeat (first | exact Has.nil _ | refine Has.cons rfl ?_))
                  · exact (SubH.cons 2 rfl (SubH.cons 2 rfl (SubH.cons 2 rfl (SubH.nil _))))
            · refine at_eff' rfl rfl (eff_lit sl24 rfl (sbld (cs := txs dws) [(.string ByteArray.empty), (.string ByteArray.empty), (.string ByteArray.empty), (.string ByteArray.empty)] sl24 (by decide) (by kernel_rfl) rfl) rfl (by decide)) rfl ?_
              rintro _ _ ⟨b68, rfl, rfl⟩
              refine any_lock 0 rfl ?_
              simp only [List.eraseIdx_cons_zero, List.eraseIdx_cons_succ]
              refine any_ro' (i := 8) (by kernel_rfl) rfl rfl (ro_indexSlice sl24 rfl rfl rfl (by omega)) rfl (fun _ _ _ h => h) ?_
              refine any_ro' (i := 9) (by kernel_rfl) rfl rfl (ro_load sc9 rfl (Rd.pick 0 rfl (Rd.elem (j := 0) (RdN.row) Tx.len hws rfl))) rfl (fun _ _ _ h => h) ?_
              refine any_two (i := 0) (j := 10) (by kernel_rfl) ?_ ?_
              · refine at_eff' rfl rfl (eff_lit sl24 rfl (sbld (cs := []) [] sl24 (by decide) (by kernel_rfl) rfl) rfl (by decide)) rfl ?_
                rintro _ _ ⟨b63, rfl, rfl⟩
                refine any_two (i := 4) (j := 10) (by kernel_rfl) ?_ ?_
                · refine at_eff' rfl rfl (eff_appF (f := Tx.cs) (l := []) (l2 := (nm.drop 0).take (k - 0)) 0 sl24 (.inl ⟨9, Tryd.underlying24⟩) rfl rfl rfl (by first | exact Src.flatv Tx.len Tx.one (Vw.pick 0 rfl (vw_subF Vw.row Tx.len (Nat.zero_le _) hkl hsh.2)) | exact Src.flatv Tx.len Tx.one (Vw.pick 1 rfl (vw_subF Vw.row Tx.len (Nat.zero_le _) hkl hsh.2)) | exact Src.flatv Tx.len Tx.one (Vw.pick 2 rfl (vw_subF Vw.row Tx.len (Nat.zero_le _) hkl hsh.2)) | exact Src.flatv Tx.len Tx.one (Vw.pick 3 rfl (vw_subF Vw.row Tx.len (Nat.zero_le _) hkl hsh.2)) | exact Src.flatv Tx.len Tx.one (Vw.pick 4 rfl (vw_subF Vw.row Tx.len (Nat.zero_le _) hkl hsh.2)) | exact Src.flatv Tx.len Tx.one (Vw.pick 5 rfl (vw_subF Vw.row Tx.len (Nat.zero_le _) hkl hsh.2)) | exact Src.flatv Tx.len Tx.one (Vw.pick 6 rfl (vw_subF Vw.row Tx.len (Nat.zero_le _) hkl hsh.2)) | exact Src.flatv Tx.len Tx.one (Vw.pick 7 rfl (vw_subF Vw.row Tx.len (Nat.zero_le _) hkl hsh.2)) | exact Src.flatv Tx.len Tx.one (Vw.pick 8 rfl (vw_subF Vw.row Tx.len (Nat.zero_le _) hkl hsh.2)) | exact Src.flatv Tx.len Tx.one (Vw.pick 0 rfl (vw_subF Vw.row Tx.len hkl (Nat.le_refl _) hsh.2)) | exact Src.flatv Tx.len Tx.one (Vw.pick 1 rfl (vw_subF Vw.row Tx.len hkl (Nat.le_refl _) hsh.2)) | exact Src.flatv Tx.len Tx.one (Vw.pick 2 rfl (vw_subF Vw.row Tx.len hkl (Nat.le_refl _) hsh.2)) | exact Src.flatv Tx.len Tx.one (Vw.pick 3 rfl (vw_subF Vw.row Tx.len hkl (Nat.le_refl _) hsh.2)) | exact Src.flatv Tx.len Tx.one (Vw.pick 4 rfl (vw_subF Vw.row Tx.len hkl (Nat.le_refl _) hsh.2)) | exact Src.flatv Tx.len Tx.one (Vw.pick 5 rfl (vw_subF Vw.row Tx.len hkl (Nat.le_refl _) hsh.2)) | exact Src.flatv Tx.len Tx.one (Vw.pick 6 rfl (vw_subF Vw.row Tx.len hkl (Nat.le_refl _) hsh.2)) | exact Src.flatv Tx.len Tx.one (Vw.pick 7 rfl (vw_subF Vw.row Tx.len hkl (Nat.le_refl _) hsh.2)) | exact Src.flatv Tx.len Tx.one (Vw.pick 8 rfl (vw_subF Vw.row Tx.len hkl (Nat.le_refl _) hsh.2)) | exact Src.flatv Tx.len Tx.one (Vw.pick 0 rfl Vw.row) | exact Src.flatv Tx.len Tx.one (Vw.pick 1 rfl Vw.row) | exact Src.flatv Tx.len Tx.one (Vw.pick 2 rfl Vw.row) | exact Src.flatv Tx.len Tx.one (Vw.pick 3 rfl Vw.row) | exact Src.flatv Tx.len Tx.one (Vw.pick 4 rfl Vw.row) | exact Src.flatv Tx.len Tx.one (Vw.pick 5 rfl Vw.row) | exact Src.flatv Tx.len Tx.one (Vw.pick 6 rfl Vw.row) | exact Src.flatv Tx.len Tx.one (Vw.pick 7 rfl Vw.row) | exact Src.flatv Tx.len Tx.one (Vw.pick 8 rfl Vw.row)) (by simp only [List.length_take, List.length_drop, List.length_nil]; omega) (by simp only [List.length_take, List.length_drop, List.length_nil]; omega)) rfl ?_
                  rintro _ _ ⟨p67, c67, rfl, hn67, rfl⟩
                  simp only [List.set_cons_zero, List.set_cons_succ, List.nil_append]
                  rw [show (nm.drop 0).take (k - 0) = nm.take k from by simp]
                  refine any_eff' (i := 10) (by kernel_rfl) rfl rfl (eff_lit sl24 rfl (sbld (cs := txs [wd]) [(.string ByteArray.empty)] sl24 (by decide) (by kernel_rfl) rfl) rfl (by decide)) rfl ?_
                  rintro _ _ ⟨b73, rfl, rfl⟩
                  refine any_eff' (i := 11) (by kernel_rfl) rfl rfl (eff_appF (f := Tx.cs) (l2 := [wd]) 1 sl24 (.inl ⟨9, Tryd.underlying24⟩) rfl rfl rfl (by first | exact Src.flatv Tx.len Tx.one (Vw.pick 0 rfl (vw_subF Vw.row Tx.len (Nat.zero_le _) hkl hsh.2)) | exact Src.flatv Tx.len Tx.one (Vw.pick 1 rfl (vw_subF Vw.row Tx.len (Nat.zero_le _) hkl hsh.2)) | exact Src.flatv Tx.len Tx.one (Vw.pick 2 rfl (vw_subF Vw.row Tx.len (Nat.zero_le _) hkl hsh.2)) | exact Src.flatv Tx.len Tx.one (Vw.pick 3 rfl (vw_subF Vw.row Tx.len (Nat.zero_le _) hkl hsh.2)) | exact Src.flatv Tx.len Tx.one (Vw.pick 4 rfl (vw_subF Vw.row Tx.len (Nat.zero_le _) hkl hsh.2)) | exact Src.flatv Tx.len Tx.one (Vw.pick 5 rfl (vw_subF Vw.row Tx.len (Nat.zero_le _) hkl hsh.2)) | exact Src.flatv Tx.len Tx.one (Vw.pick 6 rfl (vw_subF Vw.row Tx.len (Nat.zero_le _) hkl hsh.2)) | exact Src.flatv Tx.len Tx.one (Vw.pick 7 rfl (vw_subF Vw.row Tx.len (Nat.zero_le _) hkl hsh.2)) | exact Src.flatv Tx.len Tx.one (Vw.pick 8 rfl (vw_subF Vw.row Tx.len (Nat.zero_le _) hkl hsh.2)) | exact Src.flatv Tx.len Tx.one (Vw.pick 0 rfl (vw_subF Vw.row Tx.len hkl (Nat.le_refl _) hsh.2)) | exact Src.flatv Tx.len Tx.one (Vw.pick 1 rfl (vw_subF Vw.row Tx.len hkl (Nat.le_refl _) hsh.2)) | exact Src.flatv Tx.len Tx.one (Vw.pick 2 rfl (vw_subF Vw.row Tx.len hkl (Nat.le_refl _) hsh.2)) | exact Src.flatv Tx.len Tx.one (Vw.pick 3 rfl (vw_subF Vw.row Tx.len hkl (Nat.le_refl _) hsh.2)) | exact Src.flatv Tx.len Tx.one (Vw.pick 4 rfl (vw_subF Vw.row Tx.len hkl (Nat.le_refl _) hsh.2)) | exact Src.flatv Tx.len Tx.one (Vw.pick 5 rfl (vw_subF Vw.row Tx.len hkl (Nat.le_refl _) hsh.2)) | exact Src.flatv Tx.len Tx.one (Vw.pick 6 rfl (vw_subF Vw.row Tx.len hkl (Nat.le_refl _) hsh.2)) | exact Src.flatv Tx.len Tx.one (Vw.pick 7 rfl (vw_subF Vw.row Tx.len hkl (Nat.le_refl _) hsh.2)) | exact Src.flatv Tx.len Tx.one (Vw.pick 8 rfl (vw_subF Vw.row Tx.len hkl (Nat.le_refl _) hsh.2)) | exact Src.flatv Tx.len Tx.one (Vw.pick 0 rfl Vw.row) | exact Src.flatv Tx.len Tx.one (Vw.pick 1 rfl Vw.row) | exact Src.flatv Tx.len Tx.one (Vw.pick 2 rfl Vw.row) | exact Src.flatv Tx.len Tx.one (Vw.pick 3 rfl Vw.row) | exact Src.flatv Tx.len Tx.one (Vw.pick 4 rfl Vw.row) | exact Src.flatv Tx.len Tx.one (Vw.pick 5 rfl Vw.row) | exact Src.flatv Tx.len Tx.one (Vw.pick 6 rfl Vw.row) | exact Src.flatv Tx.len Tx.one (Vw.pick 7 rfl Vw.row) | exact Src.flatv Tx.len Tx.one (Vw.pick 8 rfl Vw.row)) (by simp only [List.length_take, List.length_cons, List.length_nil]; omega) (by simp only [List.length_take, List.length_cons, List.length_nil]; omega)) rfl ?_
                  rintro _ _ ⟨p74, c74, rfl, hn74, rfl⟩
                  simp only [List.set_cons_zero, List.set_cons_succ]
                  refine any_eff' (i := 15) (by kernel_rfl) rfl rfl (eff_appF (f := Tx.cs) (l2 := (nm.drop k).take (nm.length - k)) 1 sl24 (.inl ⟨9, Tryd.underlying24⟩) rfl rfl rfl (by first | exact Src.flatv Tx.len Tx.one (Vw.pick 0 rfl (vw_subF Vw.row Tx.len (Nat.zero_le _) hkl hsh.2)) | exact Src.flatv Tx.len Tx.one (Vw.pick 1 rfl (vw_subF Vw.row Tx.len (Nat.zero_le _) hkl hsh.2)) | exact Src.flatv Tx.len Tx.one (Vw.pick 2 rfl (vw_subF Vw.row Tx.len (Nat.zero_le _) hkl hsh.2)) | exact Src.flatv Tx.len Tx.one (Vw.pick 3 rfl (vw_subF Vw.row Tx.len (Nat.zero_le _) hkl hsh.2)) | exact Src.flatv Tx.len Tx.one (Vw.pick 4 rfl (vw_subF Vw.row Tx.len (Nat.zero_le _) hkl hsh.2)) | exact Src.flatv Tx.len Tx.one (Vw.pick 5 rfl (vw_subF Vw.row Tx.len (Nat.zero_le _) hkl hsh.2)) | exact Src.flatv Tx.len Tx.one (Vw.pick 6 rfl (vw_subF Vw.row Tx.len (Nat.zero_le _) hkl hsh.2)) | exact Src.flatv Tx.len Tx.one (Vw.pick 7 rfl (vw_subF Vw.row Tx.len (Nat.zero_le _) hkl hsh.2)) | exact Src.flatv Tx.len Tx.one (Vw.pick 8 rfl (vw_subF Vw.row Tx.len (Nat.zero_le _) hkl hsh.2)) | exact Src.flatv Tx.len Tx.one (Vw.pick 0 rfl (vw_subF Vw.row Tx.len hkl (Nat.le_refl _) hsh.2)) | exact Src.flatv Tx.len Tx.one (Vw.pick 1 rfl (vw_subF Vw.row Tx.len hkl (Nat.le_refl _) hsh.2)) | exact Src.flatv Tx.len Tx.one (Vw.pick 2 rfl (vw_subF Vw.row Tx.len hkl (Nat.le_refl _) hsh.2)) | exact Src.flatv Tx.len Tx.one (Vw.pick 3 rfl (vw_subF Vw.row Tx.len hkl (Nat.le_refl _) hsh.2)) | exact Src.flatv Tx.len Tx.one (Vw.pick 4 rfl (vw_subF Vw.row Tx.len hkl (Nat.le_refl _) hsh.2)) | exact Src.flatv Tx.len Tx.one (Vw.pick 5 rfl (vw_subF Vw.row Tx.len hkl (Nat.le_refl _) hsh.2)) | exact Src.flatv Tx.len Tx.one (Vw.pick 6 rfl (vw_subF Vw.row Tx.len hkl (Nat.le_refl _) hsh.2)) | exact Src.flatv Tx.len Tx.one (Vw.pick 7 rfl (vw_subF Vw.row Tx.len hkl (Nat.le_refl _) hsh.2)) | exact Src.flatv Tx.len Tx.one (Vw.pick 8 rfl (vw_subF Vw.row Tx.len hkl (Nat.le_refl _) hsh.2)) | exact Src.flatv Tx.len Tx.one (Vw.pick 0 rfl Vw.row) | exact Src.flatv Tx.len Tx.one (Vw.pick 1 rfl Vw.row) | exact Src.flatv Tx.len Tx.one (Vw.pick 2 rfl Vw.row) | exact Src.flatv Tx.len Tx.one (Vw.pick 3 rfl Vw.row) | exact Src.flatv Tx.len Tx.one (Vw.pick 4 rfl Vw.row) | exact Src.flatv Tx.len Tx.one (Vw.pick 5 rfl Vw.row) | exact Src.flatv Tx.len Tx.one (Vw.pick 6 rfl Vw.row) | exact Src.flatv Tx.len Tx.one (Vw.pick 7 rfl Vw.row) | exact Src.flatv Tx.len Tx.one (Vw.pick 8 rfl Vw.row)) (by simp only [List.length_append, List.length_take, List.length_drop, List.length_cons, List.length_nil]; omega) (by simp only [List.length_append, List.length_take, List.length_drop, List.length_cons, List.length_nil]; omega)) rfl ?_
                  rintro _ _ ⟨p78, c78, rfl, hn78, rfl⟩
                  simp only [List.set_cons_zero, List.set_cons_succ]
                  rw [show (nm.drop k).take (nm.length - k) = nm.drop k from List.take_of_length_le (by simp)]
                  refine any_unlock (m' := 17) (L' := []) (by kernel_rfl) unlock ?_
                  simp only [List.cons_append, List.nil_append, List.append_nil]
                  refine any_ro' (i := 16) (by kernel_rfl) rfl rfl (ro_assign rfl) rfl (fun _ _ _ h => h) ?_
                  refine any_doneH (by kernel_rfl) ?_
                  refine Then_normal ?_
                  refine over_cut (kept ⟨wd, p78, c78, ⟨hwl, hwr⟩, rfl, rfl⟩ ?_ ?_ ?_)
                  · exact (by repeat (first | exact Has.nil _ | refine Has.cons rfl ?_))
                  · exact (by repeat (first | exact Has.nil _ | refine Has.cons rfl ?_))
                  · exact (SubH.cons 2 rfl (SubH.cons 2 rfl (SubH.cons 2 rfl (SubH.nil _))))
                · refine at_eff' rfl rfl (eff_lit sl24 rfl (sbld (cs := txs [wd]) [(.string ByteArray.empty)] sl24 (by decide) (by kernel_rfl) rfl) rfl (by decide)) rfl ?_
                  rintro _ _ ⟨b73, rfl, rfl⟩
                  refine any_eff' (i := 4) (by kernel_rfl) rfl rfl (eff_appF (f := Tx.cs) (l := []) (l2 := (nm.drop 0).take (k - 0)) 1 sl24 (.inl ⟨9, Tryd.underlying24⟩) rfl rfl rfl (by first | exact Src.flatv Tx.len Tx.one (Vw.pick 0 rfl (vw_subF Vw.row Tx.len (Nat.zero_le _) hkl hsh.2)) | exact Src.flatv Tx.len Tx.one (Vw.pick 1 rfl (vw_subF Vw.row Tx.len (Nat.zero_le _) hkl hsh.2)) | exact Src.flatv Tx.len Tx.one (Vw.pick 2 rfl (vw_subF Vw.row Tx.len (Nat.zero_le _) hkl hsh.2)) | exact Src.flatv Tx.len Tx.one (Vw.pick 3 rfl (vw_subF Vw.row Tx.len (Nat.zero_le _) hkl hsh.2)) | exact Src.flatv Tx.len Tx.one (Vw.pick 4 rfl (vw_subF Vw.row Tx.len (Nat.zero_le _) hkl hsh.2)) | exact Src.flatv Tx.len Tx.one (Vw.pick 5 rfl (vw_subF Vw.row Tx.len (Nat.zero_le _) hkl hsh.2)) | exact Src.flatv Tx.len Tx.one (Vw.pick 6 rfl (vw_subF Vw.row Tx.len (Nat.zero_le _) hkl hsh.2)) | exact Src.flatv Tx.len Tx.one (Vw.pick 7 rfl (vw_subF Vw.row Tx.len (Nat.zero_le _) hkl hsh.2)) | exact Src.flatv Tx.len Tx.one (Vw.pick 8 rfl (vw_subF Vw.row Tx.len (Nat.zero_le _) hkl hsh.2)) | exact Src.flatv Tx.len Tx.one (Vw.pick 0 rfl (vw_subF Vw.row Tx.len hkl (Nat.le_refl _) hsh.2)) | exact Src.flatv Tx.len Tx.one (Vw.pick 1 rfl (vw_subF Vw.row Tx.len hkl (Nat.le_refl _) hsh.2)) | exact Src.flatv Tx.len Tx.one (Vw.pick 2 rfl (vw_subF Vw.row Tx.len hkl (Nat.le_refl _) hsh.2)) | exact Src.flatv Tx.len Tx.one (Vw.pick 3 rfl (vw_subF Vw.row Tx.len hkl (Nat.le_refl _) hsh.2)) | exact Src.flatv Tx.len Tx.one (Vw.pick 4 rfl (vw_subF Vw.row Tx.len hkl (Nat.le_refl _) hsh.2)) | exact Src.flatv Tx.len Tx.one (Vw.pick 5 rfl (vw_subF Vw.row Tx.len hkl (Nat.le_refl _) hsh.2)) | exact Src.flatv Tx.len Tx.one (Vw.pick 6 rfl (vw_subF Vw.row Tx.len hkl (Nat.le_refl _) hsh.2)) | exact Src.flatv Tx.len Tx.one (Vw.pick 7 rfl (vw_subF Vw.row Tx.len hkl (Nat.le_refl _) hsh.2)) | exact Src.flatv Tx.len Tx.one (Vw.pick 8 rfl (vw_subF Vw.row Tx.len hkl (Nat.le_refl _) hsh.2)) | exact Src.flatv Tx.len Tx.one (Vw.pick 0 rfl Vw.row) | exact Src.flatv Tx.len Tx.one (Vw.pick 1 rfl Vw.row) | exact Src.flatv Tx.len Tx.one (Vw.pick 2 rfl Vw.row) | exact Src.flatv Tx.len Tx.one (Vw.pick 3 rfl Vw.row) | exact Src.flatv Tx.len Tx.one (Vw.pick 4 rfl Vw.row) | exact Src.flatv Tx.len Tx.one (Vw.pick 5 rfl Vw.row) | exact Src.flatv Tx.len Tx.one (Vw.pick 6 rfl Vw.row) | exact Src.flatv Tx.len Tx.one (Vw.pick 7 rfl Vw.row) | exact Src.flatv Tx.len Tx.one (Vw.pick 8 rfl Vw.row)) (by simp only [List.length_take, List.length_drop, List.length_nil]; omega) (by simp only [List.length_take, List.length_drop, List.length_nil]; omega)) rfl ?_
                  rintro _ _ ⟨p67, c67, rfl, hn67, rfl⟩
                  simp only [List.set_cons_zero, List.set_cons_succ, List.nil_append]
                  rw [show (nm.drop 0).take (k - 0) = nm.take k from by simp]
                  refine any_eff' (i := 11) (by kernel_rfl) rfl rfl (eff_appF (f := Tx.cs) (l2 := [wd]) 1 sl24 (.inl ⟨9, Tryd.underlying24⟩) rfl rfl rfl (by first | exact Src.flatv Tx.len Tx.one (Vw.pick 0 rfl (vw_subF Vw.row Tx.len (Nat.zero_le _) hkl hsh.2)) | exact Src.flatv Tx.len Tx.one (Vw.pick 1 rfl (vw_subF Vw.row Tx.len (Nat.zero_le _) hkl hsh.2)) | exact Src.flatv Tx.len Tx.one (Vw.pick 2 rfl (vw_subF Vw.row Tx.len (Nat.zero_le _) hkl hsh.2)) | exact Src.flatv Tx.len Tx.one (Vw.pick 3 rfl (vw_subF Vw.row Tx.len (Nat.zero_le _) hkl hsh.2)) | exact Src.flatv Tx.len Tx.one (Vw.pick 4 rfl (vw_subF Vw.row Tx.len (Nat.zero_le _) hkl hsh.2)) | exact Src.flatv Tx.len Tx.one (Vw.pick 5 rfl (vw_subF Vw.row Tx.len (Nat.zero_le _) hkl hsh.2)) | exact Src.flatv Tx.len Tx.one (Vw.pick 6 rfl (vw_subF Vw.row Tx.len (Nat.zero_le _) hkl hsh.2)) | exact Src.flatv Tx.len Tx.one (Vw.pick 7 rfl (vw_subF Vw.row Tx.len (Nat.zero_le _) hkl hsh.2)) | exact Src.flatv Tx.len Tx.one (Vw.pick 8 rfl (vw_subF Vw.row Tx.len (Nat.zero_le _) hkl hsh.2)) | exact Src.flatv Tx.len Tx.one (Vw.pick 0 rfl (vw_subF Vw.row Tx.len hkl (Nat.le_refl _) hsh.2)) | exact Src.flatv Tx.len Tx.one (Vw.pick 1 rfl (vw_subF Vw.row Tx.len hkl (Nat.le_refl _) hsh.2)) | exact Src.flatv Tx.len Tx.one (Vw.pick 2 rfl (vw_subF Vw.row Tx.len hkl (Nat.le_refl _) hsh.2)) | exact Src.flatv Tx.len Tx.one (Vw.pick 3 rfl (vw_subF Vw.row Tx.len hkl (Nat.le_refl _) hsh.2)) | exact Src.flatv Tx.len Tx.one (Vw.pick 4 rfl (vw_subF Vw.row Tx.len hkl (Nat.le_refl _) hsh.2)) | exact Src.flatv Tx.len Tx.one (Vw.pick 5 rfl (vw_subF Vw.row Tx.len hkl (Nat.le_refl _) hsh.2)) | exact Src.flatv Tx.len Tx.one (Vw.pick 6 rfl (vw_subF Vw.row Tx.len hkl (Nat.le_refl _) hsh.2)) | exact Src.flatv Tx.len Tx.one (Vw.pick 7 rfl (vw_subF Vw.row Tx.len hkl (Nat.le_refl _) hsh.2)) | exact Src.flatv Tx.len Tx.one (Vw.pick 8 rfl (vw_subF Vw.row Tx.len hkl (Nat.le_refl _) hsh.2)) | exact Src.flatv Tx.len Tx.one (Vw.pick 0 rfl Vw.row) | exact Src.flatv Tx.len Tx.one (Vw.pick 1 rfl Vw.row) | exact Src.flatv Tx.len Tx.one (Vw.pick 2 rfl Vw.row) | exact Src.flatv Tx.len Tx.one (Vw.pick 3 rfl Vw.row) | exact Src.flatv Tx.len Tx.one (Vw.pick 4 rfl Vw.row) | exact Src.flatv Tx.len Tx.one (Vw.pick 5 rfl Vw.row) | exact Src.flatv Tx.len Tx.one (Vw.pick 6 rfl Vw.row) | exact Src.flatv Tx.len Tx.one (Vw.pick 7 rfl Vw.row) | exact Src.flatv Tx.len Tx.one (Vw.pick 8 rfl Vw.row)) (by simp only [List.length_take, List.length_cons, List.length_nil]; omega) (by simp only [List.length_take, List.length_cons, List.length_nil]; omega)) rfl ?_
                  rintro _ _ ⟨p74, c74, rfl, hn74, rfl⟩
                  simp only [List.set_cons_zero, List.set_cons_succ]
                  refine any_eff' (i := 15) (by kernel_rfl) rfl rfl (eff_appF (f := Tx.cs) (l2 := (nm.drop k).take (nm.length - k)) 1 sl24 (.inl ⟨9, Tryd.underlying24⟩) rfl rfl rfl (by first | exact Src.flatv Tx.len Tx.one (Vw.pick 0 rfl (vw_subF Vw.row Tx.len (Nat.zero_le _) hkl hsh.2)) | exact Src.flatv Tx.len Tx.one (Vw.pick 1 rfl (vw_subF Vw.row Tx.len (Nat.zero_le _) hkl hsh.2)) | exact Src.flatv Tx.len Tx.one (Vw.pick 2 rfl (vw_subF Vw.row Tx.len (Nat.zero_le _) hkl hsh.2)) | exact Src.flatv Tx.len Tx.one (Vw.pick 3 rfl (vw_subF Vw.row Tx.len (Nat.zero_le _) hkl hsh.2)) | exact Src.flatv Tx.len Tx.one (Vw.pick 4 rfl (vw_subF Vw.row Tx.len (Nat.zero_le _) hkl hsh.2)) | exact Src.flatv Tx.len Tx.one (Vw.pick 5 rfl (vw_subF Vw.row Tx.len (Nat.zero_le _) hkl hsh.2)) | exact Src.flatv Tx.len Tx.one (Vw.pick 6 rfl (vw_subF Vw.row Tx.len (Nat.zero_le _) hkl hsh.2)) | exact Src.flatv Tx.len Tx.one (Vw.pick 7 rfl (vw_subF Vw.row Tx.len (Nat.zero_le _) hkl hsh.2)) | exact Src.flatv Tx.len Tx.one (Vw.pick 8 rfl (vw_subF Vw.row Tx.len (Nat.zero_le _) hkl hsh.2)) | exact Src.flatv Tx.len Tx.one (Vw.pick 0 rfl (vw_subF Vw.row Tx.len hkl (Nat.le_refl _) hsh.2)) | exact Src.flatv Tx.len Tx.one (Vw.pick 1 rfl (vw_subF Vw.row Tx.len hkl (Nat.le_refl _) hsh.2)) | exact Src.flatv Tx.len Tx.one (Vw.pick 2 rfl (vw_subF Vw.row Tx.len hkl (Nat.le_refl _) hsh.2)) | exact Src.flatv Tx.len Tx.one (Vw.pick 3 rfl (vw_subF Vw.row Tx.len hkl (Nat.le_refl _) hsh.2)) | exact Src.flatv Tx.len Tx.one (Vw.pick 4 rfl (vw_subF Vw.row Tx.len hkl (Nat.le_refl _) hsh.2)) | exact Src.flatv Tx.len Tx.one (Vw.pick 5 rfl (vw_subF Vw.row Tx.len hkl (Nat.le_refl _) hsh.2)) | exact Src.flatv Tx.len Tx.one (Vw.pick 6 rfl (vw_subF Vw.row Tx.len hkl (Nat.le_refl _) hsh.2)) | exact Src.flatv Tx.len Tx.one (Vw.pick 7 rfl (vw_subF Vw.row Tx.len hkl (Nat.le_refl _) hsh.2)) | exact Src.flatv Tx.len Tx.one (Vw.pick 8 rfl (vw_subF Vw.row Tx.len hkl (Nat.le_refl _) hsh.2)) | exact Src.flatv Tx.len Tx.one (Vw.pick 0 rfl Vw.row) | exact Src.flatv Tx.len Tx.one (Vw.pick 1 rfl Vw.row) | exact Src.flatv Tx.len Tx.one (Vw.pick 2 rfl Vw.row) | exact Src.flatv Tx.len Tx.one (Vw.pick 3 rfl Vw.row) | exact Src.flatv Tx.len Tx.one (Vw.pick 4 rfl Vw.row) | exact Src.flatv Tx.len Tx.one (Vw.pick 5 rfl Vw.row) | exact Src.flatv Tx.len Tx.one (Vw.pick 6 rfl Vw.row) | exact Src.flatv Tx.len Tx.one (Vw.pick 7 rfl Vw.row) | exact Src.flatv Tx.len Tx.one (Vw.pick 8 rfl Vw.row)) (by simp only [List.length_append, List.length_take, List.length_drop, List.length_cons, List.length_nil]; omega) (by simp only [List.length_append, List.length_take, List.length_drop, List.length_cons, List.length_nil]; omega)) rfl ?_
                  rintro _ _ ⟨p78, c78, rfl, hn78, rfl⟩
                  simp only [List.set_cons_zero, List.set_cons_succ]
                  rw [show (nm.drop k).take (nm.length - k) = nm.drop k from List.take_of_length_le (by simp)]
                  refine any_unlock (m' := 17) (L' := []) (by kernel_rfl) unlock ?_
                  simp only [List.cons_append, List.nil_append, List.append_nil]
                  refine any_ro' (i := 16) (by kernel_rfl) rfl rfl (ro_assign rfl) rfl (fun _ _ _ h => h) ?_
                  refine any_doneH (by kernel_rfl) ?_
                  refine Then_normal ?_
                  refine over_cut (kept ⟨wd, p78, c78, ⟨hwl, hwr⟩, rfl, rfl⟩ ?_ ?_ ?_)
                  · exact (by repeat (first | exact Has.nil _ | refine Has.cons rfl ?_))
                  · exact (by repeat (first | exact Has.nil _ | refine Has.cons rfl ?_))
                  · exact (SubH.cons 2 rfl (SubH.cons 2 rfl (SubH.cons 2 rfl (SubH.nil _))))
              · refine at_eff' rfl rfl (eff_lit sl24 rfl (sbld (cs := txs [wd]) [(.string ByteArray.empty)] sl24 (by decide) (by kernel_rfl) rfl) rfl (by decide)) rfl ?_
                rintro _ _ ⟨b73, rfl, rfl⟩
                refine any_eff' (i := 0) (by kernel_rfl) rfl rfl (eff_lit sl24 rfl (sbld (cs := []) [] sl24 (by decide) (by kernel_rfl) rfl) rfl (by decide)) rfl ?_
                rintro _ _ ⟨b63, rfl, rfl⟩
                refine any_eff' (i := 4) (by kernel_rfl) rfl rfl (eff_appF (f := Tx.cs) (l := []) (l2 := (nm.drop 0).take (k - 0)) 0 sl24 (.inl ⟨9, Tryd.underlying24⟩) rfl rfl rfl (by first | exact Src.flatv Tx.len Tx.one (Vw.pick 0 rfl (vw_subF Vw.row Tx.len (Nat.zero_le _) hkl hsh.2)) | exact Src.flatv Tx.len Tx.one (Vw.pick 1 rfl (vw_subF Vw.row Tx.len (Nat.zero_le _) hkl hsh.2)) | exact Src.flatv Tx.len Tx.one (Vw.pick 2 rfl (vw_subF Vw.row Tx.len (Nat.zero_le _) hkl hsh.2)) | exact Src.flatv Tx.len Tx.one (Vw.pick 3 rfl (vw_subF Vw.row Tx.len (Nat.zero_le _) hkl hsh.2)) | exact Src.flatv Tx.len Tx.one (Vw.pick 4 rfl (vw_subF Vw.row Tx.len (Nat.zero_le _) hkl hsh.2)) | exact Src.flatv Tx.len Tx.one (Vw.pick 5 rfl (vw_subF Vw.row Tx.len (Nat.zero_le _) hkl hsh.2)) | exact Src.flatv Tx.len Tx.one (Vw.pick 6 rfl (vw_subF Vw.row Tx.len (Nat.zero_le _) hkl hsh.2)) | exact Src.flatv Tx.len Tx.one (Vw.pick 7 rfl (vw_subF Vw.row Tx.len (Nat.zero_le _) hkl hsh.2)) | exact Src.flatv Tx.len Tx.one (Vw.pick 8 rfl (vw_subF Vw.row Tx.len (Nat.zero_le _) hkl hsh.2)) | exact Src.flatv Tx.len Tx.one (Vw.pick 0 rfl (vw_subF Vw.row Tx.len hkl (Nat.le_refl _) hsh.2)) | exact Src.flatv Tx.len Tx.one (Vw.pick 1 rfl (vw_subF Vw.row Tx.len hkl (Nat.le_refl _) hsh.2)) | exact Src.flatv Tx.len Tx.one (Vw.pick 2 rfl (vw_subF Vw.row Tx.len hkl (Nat.le_refl _) hsh.2)) | exact Src.flatv Tx.len Tx.one (Vw.pick 3 rfl (vw_subF Vw.row Tx.len hkl (Nat.le_refl _) hsh.2)) | exact Src.flatv Tx.len Tx.one (Vw.pick 4 rfl (vw_subF Vw.row Tx.len hkl (Nat.le_refl _) hsh.2)) | exact Src.flatv Tx.len Tx.one (Vw.pick 5 rfl (vw_subF Vw.row Tx.len hkl (Nat.le_refl _) hsh.2)) | exact Src.flatv Tx.len Tx.one (Vw.pick 6 rfl (vw_subF Vw.row Tx.len hkl (Nat.le_refl _) hsh.2)) | exact Src.flatv Tx.len Tx.one (Vw.pick 7 rfl (vw_subF Vw.row Tx.len hkl (Nat.le_refl _) hsh.2)) | exact Src.flatv Tx.len Tx.one (Vw.pick 8 rfl (vw_subF Vw.row Tx.len hkl (Nat.le_refl _) hsh.2)) | exact Src.flatv Tx.len Tx.one (Vw.pick 0 rfl Vw.row) | exact Src.flatv Tx.len Tx.one (Vw.pick 1 rfl Vw.row) | exact Src.flatv Tx.len Tx.one (Vw.pick 2 rfl Vw.row) | exact Src.flatv Tx.len Tx.one (Vw.pick 3 rfl Vw.row) | exact Src.flatv Tx.len Tx.one (Vw.pick 4 rfl Vw.row) | exact Src.flatv Tx.len Tx.one (Vw.pick 5 rfl Vw.row) | exact Src.flatv Tx.len Tx.one (Vw.pick 6 rfl Vw.row) | exact Src.flatv Tx.len Tx.one (Vw.pick 7 rfl Vw.row) | exact Src.flatv Tx.len Tx.one (Vw.pick 8 rfl Vw.row)) (by simp only [List.length_take, List.length_drop, List.length_nil]; omega) (by simp only [List.length_take, List.length_drop, List.length_nil]; omega)) rfl ?_
                rintro _ _ ⟨p67, c67, rfl, hn67, rfl⟩
                simp only [List.set_cons_zero, List.set_cons_succ, List.nil_append]
                rw [show (nm.drop 0).take (k - 0) = nm.take k from by simp]
                refine any_eff' (i := 11) (by kernel_rfl) rfl rfl (eff_appF (f := Tx.cs) (l2 := [wd]) 0 sl24 (.inl ⟨9, Tryd.underlying24⟩) rfl rfl rfl (by first | exact Src.flatv Tx.len Tx.one (Vw.pick 0 rfl (vw_subF Vw.row Tx.len (Nat.zero_le _) hkl hsh.2)) | exact Src.flatv Tx.len Tx.one (Vw.pick 1 rfl (vw_subF Vw.row Tx.len (Nat.zero_le _) hkl hsh.2)) | exact Src.flatv Tx.len Tx.one (Vw.pick 2 rfl (vw_subF Vw.row Tx.len (Nat.zero_le _) hkl hsh.2)) | exact Src.flatv Tx.len Tx.one (Vw.pick 3 rfl (vw_subF Vw.row Tx.len (Nat.zero_le _) hkl hsh.2)) | exact Src.flatv Tx.len Tx.one (Vw.pick 4 rfl (vw_subF Vw.row Tx.len (Nat.zero_le _) hkl hsh.2)) | exact Src.flatv Tx.len Tx.one (Vw.pick 5 rfl (vw_subF Vw.row Tx.len (Nat.zero_le _) hkl hsh.2)) | exact Src.flatv Tx.len Tx.one (Vw.pick 6 rfl (vw_subF Vw.row Tx.len (Nat.zero_le _) hkl hsh.2)) | exact Src.flatv Tx.len Tx.one (Vw.pick 7 rfl (vw_subF Vw.row Tx.len (Nat.zero_le _) hkl hsh.2)) | exact Src.flatv Tx.len Tx.one (Vw.pick 8 rfl (vw_subF Vw.row Tx.len (Nat.zero_le _) hkl hsh.2)) | exact Src.flatv Tx.len Tx.one (Vw.pick 0 rfl (vw_subF Vw.row Tx.len hkl (Nat.le_refl _) hsh.2)) | exact Src.flatv Tx.len Tx.one (Vw.pick 1 rfl (vw_subF Vw.row Tx.len hkl (Nat.le_refl _) hsh.2)) | exact Src.flatv Tx.len Tx.one (Vw.pick 2 rfl (vw_subF Vw.row Tx.len hkl (Nat.le_refl _) hsh.2)) | exact Src.flatv Tx.len Tx.one (Vw.pick 3 rfl (vw_subF Vw.row Tx.len hkl (Nat.le_refl _) hsh.2)) | exact Src.flatv Tx.len Tx.one (Vw.pick 4 rfl (vw_subF Vw.row Tx.len hkl (Nat.le_refl _) hsh.2)) | exact Src.flatv Tx.len Tx.one (Vw.pick 5 rfl (vw_subF Vw.row Tx.len hkl (Nat.le_refl _) hsh.2)) | exact Src.flatv Tx.len Tx.one (Vw.pick 6 rfl (vw_subF Vw.row Tx.len hkl (Nat.le_refl _) hsh.2)) | exact Src.flatv Tx.len Tx.one (Vw.pick 7 rfl (vw_subF Vw.row Tx.len hkl (Nat.le_refl _) hsh.2)) | exact Src.flatv Tx.len Tx.one (Vw.pick 8 rfl (vw_subF Vw.row Tx.len hkl (Nat.le_refl _) hsh.2)) | exact Src.flatv Tx.len Tx.one (Vw.pick 0 rfl Vw.row) | exact Src.flatv Tx.len Tx.one (Vw.pick 1 rfl Vw.row) | exact Src.flatv Tx.len Tx.one (Vw.pick 2 rfl Vw.row) | exact Src.flatv Tx.len Tx.one (Vw.pick 3 rfl Vw.row) | exact Src.flatv Tx.len Tx.one (Vw.pick 4 rfl Vw.row) | exact Src.flatv Tx.len Tx.one (Vw.pick 5 rfl Vw.row) | exact Src.flatv Tx.len Tx.one (Vw.pick 6 rfl Vw.row) | exact Src.flatv Tx.len Tx.one (Vw.pick 7 rfl Vw.row) | exact Src.flatv Tx.len Tx.one (Vw.pick 8 rfl Vw.row)) (by simp only [List.length_take, List.length_cons, List.length_nil]; omega) (by simp only [List.length_take, List.length_cons, List.length_nil]; omega)) rfl ?_
                rintro _ _ ⟨p74, c74, rfl, hn74, rfl⟩
                simp only [List.set_cons_zero, List.set_cons_succ]
                refine any_eff' (i := 15) (by kernel_rfl) rfl rfl (eff_appF (f := Tx.cs) (l2 := (nm.drop k).take (nm.length - k)) 0 sl24 (.inl ⟨9, Tryd.underlying24⟩) rfl rfl rfl (by first | exact Src.flatv Tx.len Tx.one (Vw.pick 0 rfl (vw_subF Vw.row Tx.len (Nat.zero_le _) hkl hsh.2)) | exact Src.flatv Tx.len Tx.one (Vw.pick 1 rfl (vw_subF Vw.row Tx.len (Nat.zero_le _) hkl hsh.2)) | exact Src.flatv Tx.len Tx.one (Vw.pick 2 rfl (vw_subF Vw.row Tx.len (Nat.zero_le _) hkl hsh.2)) | exact Src.flatv Tx.len Tx.one (Vw.pick 3 rfl (vw_subF Vw.row Tx.len (Nat.zero_le _) hkl hsh.2)) | exact Src.flatv Tx.len Tx.one (Vw.pick 4 rfl (vw_subF Vw.row Tx.len (Nat.zero_le _) hkl hsh.2)) | exact Src.flatv Tx.len Tx.one (Vw.pick 5 rfl (vw_subF Vw.row Tx.len (Nat.zero_le _) hkl hsh.2)) | exact Src.flatv Tx.len Tx.one (Vw.pick 6 rfl (vw_subF Vw.row Tx.len (Nat.zero_le _) hkl hsh.2)) | exact Src.flatv Tx.len Tx.one (Vw.pick 7 rfl (vw_subF Vw.row Tx.len (Nat.zero_le _) hkl hsh.2)) | exact Src.flatv Tx.len Tx.one (Vw.pick 8 rfl (vw_subF Vw.row Tx.len (Nat.zero_le _) hkl hsh.2)) | exact Src.flatv Tx.len Tx.one (Vw.pick 0 rfl (vw_subF Vw.row Tx.len hkl (Nat.le_refl _) hsh.2)) | exact Src.flatv Tx.len Tx.one (Vw.pick 1 rfl (vw_subF Vw.row Tx.len hkl (Nat.le_refl _) hsh.2)) | exact Src.flatv Tx.len Tx.one (Vw.pick 2 rfl (vw_subF Vw.row Tx.len hkl (Nat.le_refl _) hsh.2)) | exact Src.flatv Tx.len Tx.one (Vw.pick 3 rfl (vw_subF Vw.row Tx.len hkl (Nat.le_refl _) hsh.2)) | exact Src.flatv Tx.len Tx.one (Vw.pick 4 rfl (vw_subF Vw.row Tx.len hkl (Nat.le_refl _) hsh.2)) | exact Src.flatv Tx.len Tx.one (Vw.pick 5 rfl (vw_subF Vw.row Tx.len hkl (Nat.le_refl _) hsh.2)) | exact Src.flatv Tx.len Tx.one (Vw.pick 6 rfl (vw_subF Vw.row Tx.len hkl (Nat.le_refl _) hsh.2)) | exact Src.flatv Tx.len Tx.one (Vw.pick 7 rfl (vw_subF Vw.row Tx.len hkl (Nat.le_refl _) hsh.2)) | exact Src.flatv Tx.len Tx.one (Vw.pick 8 rfl (vw_subF Vw.row Tx.len hkl (Nat.le_refl _) hsh.2)) | exact Src.flatv Tx.len Tx.one (Vw.pick 0 rfl Vw.row) | exact Src.flatv Tx.len Tx.one (Vw.pick 1 rfl Vw.row) | exact Src.flatv Tx.len Tx.one (Vw.pick 2 rfl Vw.row) | exact Src.flatv Tx.len Tx.one (Vw.pick 3 rfl Vw.row) | exact Src.flatv Tx.len Tx.one (Vw.pick 4 rfl Vw.row) | exact Src.flatv Tx.len Tx.one (Vw.pick 5 rfl Vw.row) | exact Src.flatv Tx.len Tx.one (Vw.pick 6 rfl Vw.row) | exact Src.flatv Tx.len Tx.one (Vw.pick 7 rfl Vw.row) | exact Src.flatv Tx.len Tx.one (Vw.pick 8 rfl Vw.row)) (by simp only [List.length_append, List.length_take, List.length_drop, List.length_cons, List.length_nil]; omega) (by simp only [List.length_append, List.length_take, List.length_drop, List.length_cons, List.length_nil]; omega)) rfl ?_
                rintro _ _ ⟨p78, c78, rfl, hn78, rfl⟩
                simp only [List.set_cons_zero, List.set_cons_succ]
                rw [show (nm.drop k).take (nm.length - k) = nm.drop k from List.take_of_length_le (by simp)]
                refine any_unlock (m' := 17) (L' := []) (by kernel_rfl) unlock ?_
                simp only [List.cons_append, List.nil_append, List.append_nil]
                refine any_ro' (i := 16) (by kernel_rfl) rfl rfl (ro_assign rfl) rfl (fun _ _ _ h => h) ?_
                refine any_doneH (by kernel_rfl) ?_
                refine Then_normal ?_
                refine over_cut (kept ⟨wd, p78, c78, ⟨hwl, hwr⟩, rfl, rfl⟩ ?_ ?_ ?_)
                · exact (by repeat (first | exact Has.nil _ | refine Has.cons rfl ?_))
                · exact (by repeat (first | exact Has.nil _ | refine Has.cons rfl ?_))
                · exact (SubH.cons 1 rfl (SubH.cons 2 rfl (SubH.cons 2 rfl (SubH.nil _))))
          · rintro Δ LL ⟨wd, p78, c78, ⟨hwl, hwr⟩, rfl, rfl⟩
            simp only [List.cons_append, List.nil_append]
            refine wp_seq' ?_
            refine wp_know (fun w F s => row_caps 0 rfl s) ?_
            intro hca
            refine wp_know (fun w F s => row_caps 1 rfl s) ?_
            intro hcn
            have hrun := dots_run (k := k) hok hwr
            have h300 : ∀ x ∈ nm, x.length ≤ 300 := fun x hx => Nat.le_trans (ptOk_30 (hok x hx)) (by decide)
            obtain ⟨al, hal⟩ : ∃ z, z = (nm.take k ++ [wd] ++ nm.drop k) := ⟨_, rfl⟩
            rw [← hal] at hca hrun ⊢
            have hol : al.length ≤ 7 := by rw [hal, cut_len hkl]; omega
            have hpl : ptLen al = ptLen nm + (wd.length + 1) := by rw [hal, ptLen_cut]
            have hjl := (pJoin_len al).1
            have hal3 : ∀ x ∈ al, x.length ≤ 300 := fun x hx => by
              rw [hal] at hx
              rcases mem_cut hx with h | h
              · exact h300 x h
              · rw [h]; omega
            have hj0 := (pJoin_len al).2.2
            have hsp := pSplit_some (s := pJoin al) (by omega) hrun
            have hsp2 := pSplit_some (s := (pJoin al).drop 1) (by rw [List.length_drop]; omega) (run_tail hrun)
            have hsp3 := pSplit_some (s := pJoin al ++ [47]) (by rw [List.length_append]; simp; omega) (run_slash hrun)
            have hcl : pClean (pJoin al ++ [47]) = (pJoin nm, 0) := by unfold pClean; rw [hsp3]; rfl
            refine wp_region' ?_
            refine ops_ro' rfl (ro_move rfl) rfl ?_
            refine ops_eff' rfl (eff_callM (Pre := []) Tryd.call18 rfl rfl (Split.nil _) (ptJoin_spec _ _ _ al (by first | exact (Vw.pick 0 rfl (vw_subF Vw.row Tx.len (Nat.zero_le _) hkl hsh.2)) | exact (Vw.pick 1 rfl (vw_subF Vw.row Tx.len (Nat.zero_le _) hkl hsh.2)) | exact (Vw.pick 2 rfl (vw_subF Vw.row Tx.len (Nat.zero_le _) hkl hsh.2)) | exact (Vw.pick 3 rfl (vw_subF Vw.row Tx.len (Nat.zero_le _) hkl hsh.2)) | exact (Vw.pick 4 rfl (vw_subF Vw.row Tx.len (Nat.zero_le _) hkl hsh.2)) | exact (Vw.pick 5 rfl (vw_subF Vw.row Tx.len (Nat.zero_le _) hkl hsh.2)) | exact (Vw.pick 6 rfl (vw_subF Vw.row Tx.len (Nat.zero_le _) hkl hsh.2)) | exact (Vw.pick 7 rfl (vw_subF Vw.row Tx.len (Nat.zero_le _) hkl hsh.2)) | exact (Vw.pick 8 rfl (vw_subF Vw.row Tx.len (Nat.zero_le _) hkl hsh.2)) | exact (Vw.pick 0 rfl (vw_subF Vw.row Tx.len hkl (Nat.le_refl _) hsh.2)) | exact (Vw.pick 1 rfl (vw_subF Vw.row Tx.len hkl (Nat.le_refl _) hsh.2)) | exact (Vw.pick 2 rfl (vw_subF Vw.row Tx.len hkl (Nat.le_refl _) hsh.2)) | exact (Vw.pick 3 rfl (vw_subF Vw.row Tx.len hkl (Nat.le_refl _) hsh.2)) | exact (Vw.pick 4 rfl (vw_subF Vw.row Tx.len hkl (Nat.le_refl _) hsh.2)) | exact (Vw.pick 5 rfl (vw_subF Vw.row Tx.len hkl (Nat.le_refl _) hsh.2)) | exact (Vw.pick 6 rfl (vw_subF Vw.row Tx.len hkl (Nat.le_refl _) hsh.2)) | exact (Vw.pick 7 rfl (vw_subF Vw.row Tx.len hkl (Nat.le_refl _) hsh.2)) | exact (Vw.pick 8 rfl (vw_subF Vw.row Tx.len hkl (Nat.le_refl _) hsh.2)) | exact Vw.pick 0 rfl Vw.row | exact Vw.pick 1 rfl Vw.row | exact Vw.pick 2 rfl Vw.row | exact Vw.pick 3 rfl Vw.row | exact Vw.pick 4 rfl Vw.row | exact Vw.pick 5 rfl Vw.row | exact Vw.pick 6 rfl Vw.row | exact Vw.pick 7 rfl Vw.row | exact Vw.pick 8 rfl Vw.row | exact Vw.nil _ | exact Vw.empty _ _) hca (by omega) hal3)) rfl ?_
            rintro _ H' ⟨_, ⟨rfl, rfl⟩, hH⟩
            simp only [List.cons_append, List.nil_append, List.eraseIdx_cons_zero, List.eraseIdx_cons_succ, List.set_cons_zero, List.set_cons_succ] at hH
            subst hH
            refine ops_ro' rfl (ro_assign rfl) rfl ?_
            refine ops_nil ?_
            refine Then_normal ?_
            refine wp_seq' ?_
            refine wp_seq' ?_
            refine wp_region' ?_
            refine ops_ro' rfl (ro_move rfl) rfl ?_
            refine ops_ro' rfl (ro_lenS (t' := 0) Tryd.underlying9 rfl) rfl ?_
            refine ops_ro' rfl (ro_eql rfl rfl (decide_eq_false (by omega))) rfl ?_
            refine ops_nil ?_
            refine Then_normal ?_
            refine wp_condF rfl ?_
            refine wp_skip' ?_
            refine Then_normal ?_
            refine wp_seq' ?_
            refine wp_region' ?_
            refine ops_ro' rfl (ro_move rfl) rfl ?_
            refine ops_eff' rfl (eff_call Tryd.call11 rfl rfl (by repeat (first | exact Split.nil _ | apply Split.cons 0 rfl | apply Split.cons 1 rfl | apply Split.cons 2 rfl | apply Split.cons 3 rfl | apply Split.cons 4 rfl | apply Split.cons 5 rfl | apply Split.cons 6 rfl | apply Split.cons 7 rfl | apply Split.cons 8 rfl | apply Split.cons 9 rfl | apply Split.cons 10 rfl | apply Split.cons 11 rfl)) (ptSplit_spec V hM (pJoin al) (by omega))) rfl ?_
            rintro _ H' ⟨_, ⟨_, ⟨p86, c86, rfl, rfl⟩, rfl⟩, hH⟩
            simp only [List.cons_append, List.nil_append, List.eraseIdx_cons_zero, List.eraseIdx_cons_succ, List.set_cons_zero, List.set_cons_succ] at hH
            subst hH
            rw [hsp]
            refine ops_ro' rfl (ro_move rfl) rfl ?_
            refine ops_ro' rfl (ro_extract rfl rfl) rfl ?_
            refine ops_ro' rfl (ro_extract rfl rfl) rfl ?_
            refine ops_ro' rfl (ro_assign rfl) rfl ?_
            refine ops_ro' rfl (ro_assign rfl) rfl ?_
            refine ops_nil ?_
            refine Then_normal ?_
            refine wp_seq' ?_
            refine wp_region' ?_
            refine ops_ro' rfl (ro_move rfl) rfl ?_
            refine ops_ro' rfl (ro_sliceS Tryd.underlying9 rfl (bnd_of rfl rfl) rfl (by dsimp only; omega) (Nat.le_refl _)) rfl ?_
            rw [show ((pJoin al).drop 1).take ((pJoin al).length - 1) = (pJoin al).drop 1 from List.take_of_length_le (by simp)]
            refine ops_eff' rfl (eff_call Tryd.call11 rfl rfl (by repeat (first | exact Split.nil _ | apply Split.cons 0 rfl | apply Split.cons 1 rfl | apply Split.cons 2 rfl | apply Split.cons 3 rfl | apply Split.cons 4 rfl | apply Split.cons 5 rfl | apply Split.cons 6 rfl | apply Split.cons 7 rfl | apply Split.cons 8 rfl | apply Split.cons 9 rfl | apply Split.cons 10 rfl | apply Split.cons 11 rfl)) (ptSplit_spec V hM ((pJoin al).drop 1) (by rw [List.length_drop]; omega))) rfl ?_
            rintro _ H' ⟨_, ⟨_, ⟨p92, c92, rfl, rfl⟩, rfl⟩, hH⟩
            simp only [List.cons_append, List.nil_append, List.eraseIdx_cons_zero, List.eraseIdx_cons_succ, List.set_cons_zero, List.set_cons_succ] at hH
            subst hH
            rw [hsp2]
            refine ops_ro' rfl (ro_move rfl) rfl ?_
            refine ops_ro' rfl (ro_extract rfl rfl) rfl ?_
            refine ops_ro' rfl (ro_extract rfl rfl) rfl ?_
            refine ops_ro' rfl (ro_assign rfl) rfl ?_
            refine ops_ro' rfl (ro_assign rfl) rfl ?_
            refine ops_nil ?_
            refine Then_normal ?_
            refine wp_seq' ?_
            refine wp_region' ?_
            refine ops_ro' rfl (ro_move rfl) rfl ?_
            refine ops_ro' rfl (ro_addS rfl rfl (by first | omega | (simp only [List.length_append, List.length_cons, List.length_nil] at *; omega))) rfl ?_
            refine ops_eff' rfl (eff_call Tryd.call13 rfl rfl (by repeat (first | exact Split.nil _ | apply Split.cons 0 rfl | apply Split.cons 1 rfl | apply Split.cons 2 rfl | apply Split.cons 3 rfl | apply Split.cons 4 rfl | apply Split.cons 5 rfl | apply Split.cons 6 rfl | apply Split.cons 7 rfl | apply Split.cons 8 rfl | apply Split.cons 9 rfl | apply Split.cons 10 rfl | apply Split.cons 11 rfl)) (ptClean_spec V hM (pJoin al ++ [47]) (by rw [List.length_append]; simp; omega))) rfl ?_
            rintro _ H' ⟨_, ⟨_, ⟨rfl, rfl⟩, rfl⟩, hH⟩
            simp only [List.cons_append, List.nil_append, List.eraseIdx_cons_zero, List.eraseIdx_cons_succ, List.set_cons_zero, List.set_cons_succ] at hH
            subst hH
            rw [hcl]
            refine ops_ro' rfl (ro_move rfl) rfl ?_
            refine ops_ro' rfl (ro_extract rfl rfl) rfl ?_
            refine ops_ro' rfl (ro_extract rfl rfl) rfl ?_
            refine ops_ro' rfl (ro_assign rfl) rfl ?_
            refine ops_ro' rfl (ro_assign rfl) rfl ?_
            refine ops_nil ?_
            refine Then_normal ?_
            refine wp_seq' ?_
            refine wp_region' ?_
            refine ops_ro' rfl (ro_move rfl) rfl ?_
            refine ops_ro' rfl (ro_eql rfl rfl (decide_eq_true (by omega))) rfl ?_
            refine ops_ro' rfl (ro_move (v := .bool true) rfl) rfl ?_
            refine ops_ro' rfl (ro_move rfl) rfl ?_
            refine ops_ro' rfl (ro_eql rfl rfl (decide_eq_true (by omega))) rfl ?_
            refine ops_ro' rfl (ro_pick rfl rfl) rfl ?_
            refine ops_ro' rfl (ro_move (v := .bool true) rfl) rfl ?_
            refine ops_ro' rfl (ro_move rfl) rfl ?_
            refine ops_ro' rfl (ro_eql rfl rfl (decide_eq_true (by omega))) rfl ?_
            refine ops_ro' rfl (ro_pick rfl rfl) rfl ?_
            refine ops_ro' rfl (ro_move (v := .bool true) rfl) rfl ?_
            refine ops_ro' rfl (ro_move rfl) rfl ?_
            refine ops_ro' rfl (ro_move rfl) rfl ?_
            refine ops_eff' rfl (eff_callM (Pre := []) Tryd.call15 rfl rfl (Split.nil _) (ktexts_spec _ nm nm _ _ _ _ (by first | exact (Vw.pick 0 rfl (vw_subF Vw.row Tx.len (Nat.zero_le _) hkl hsh.2)) | exact (Vw.pick 1 rfl (vw_subF Vw.row Tx.len (Nat.zero_le _) hkl hsh.2)) | exact (Vw.pick 2 rfl (vw_subF Vw.row Tx.len (Nat.zero_le _) hkl hsh.2)) | exact (Vw.pick 3 rfl (vw_subF Vw.row Tx.len (Nat.zero_le _) hkl hsh.2)) | exact (Vw.pick 4 rfl (vw_subF Vw.row Tx.len (Nat.zero_le _) hkl hsh.2)) | exact (Vw.pick 5 rfl (vw_subF Vw.row Tx.len (Nat.zero_le _) hkl hsh.2)) | exact (Vw.pick 6 rfl (vw_subF Vw.row Tx.len (Nat.zero_le _) hkl hsh.2)) | exact (Vw.pick 7 rfl (vw_subF Vw.row Tx.len (Nat.zero_le _) hkl hsh.2)) | exact (Vw.pick 8 rfl (vw_subF Vw.row Tx.len (Nat.zero_le _) hkl hsh.2)) | exact (Vw.pick 0 rfl (vw_subF Vw.row Tx.len hkl (Nat.le_refl _) hsh.2)) | exact (Vw.pick 1 rfl (vw_subF Vw.row Tx.len hkl (Nat.le_refl _) hsh.2)) | exact (Vw.pick 2 rfl (vw_subF Vw.row Tx.len hkl (Nat.le_refl _) hsh.2)) | exact (Vw.pick 3 rfl (vw_subF Vw.row Tx.len hkl (Nat.le_refl _) hsh.2)) | exact (Vw.pick 4 rfl (vw_subF Vw.row Tx.len hkl (Nat.le_refl _) hsh.2)) | exact (Vw.pick 5 rfl (vw_subF Vw.row Tx.len hkl (Nat.le_refl _) hsh.2)) | exact (Vw.pick 6 rfl (vw_subF Vw.row Tx.len hkl (Nat.le_refl _) hsh.2)) | exact (Vw.pick 7 rfl (vw_subF Vw.row Tx.len hkl (Nat.le_refl _) hsh.2)) | exact (Vw.pick 8 rfl (vw_subF Vw.row Tx.len hkl (Nat.le_refl _) hsh.2)) | exact Vw.pick 0 rfl Vw.row | exact Vw.pick 1 rfl Vw.row | exact Vw.pick 2 rfl Vw.row | exact Vw.pick 3 rfl Vw.row | exact Vw.pick 4 rfl Vw.row | exact Vw.pick 5 rfl Vw.row | exact Vw.pick 6 rfl Vw.row | exact Vw.pick 7 rfl Vw.row | exact Vw.pick 8 rfl Vw.row | exact Vw.nil _ | exact Vw.empty _ _) (by first | exact (Vw.pick 0 rfl (vw_subF Vw.row Tx.len (Nat.zero_le _) hkl hsh.2)) | exact (Vw.pick 1 rfl (vw_subF Vw.row Tx.len (Nat.zero_le _) hkl hsh.2)) | exact (Vw.pick 2 rfl (vw_subF Vw.row Tx.len (Nat.zero_le _) hkl hsh.2)) | exact (Vw.pick 3 rfl (vw_subF Vw.row Tx.len (Nat.zero_le _) hkl hsh.2)) | exact (Vw.pick 4 rfl (vw_subF Vw.row Tx.len (Nat.zero_le _) hkl hsh.2)) | exact (Vw.pick 5 rfl (vw_subF Vw.row Tx.len (Nat.zero_le _) hkl hsh.2)) | exact (Vw.pick 6 rfl (vw_subF Vw.row Tx.len (Nat.zero_le _) hkl hsh.2)) | exact (Vw.pick 7 rfl (vw_subF Vw.row Tx.len (Nat.zero_le _) hkl hsh.2)) | exact (Vw.pick 8 rfl (vw_subF Vw.row Tx.len (Nat.zero_le _) hkl hsh.2)) | exact (Vw.pick 0 rfl (vw_subF Vw.row Tx.len hkl (Nat.le_refl _) hsh.2)) | exact (Vw.pick 1 rfl (vw_subF Vw.row Tx.len hkl (Nat.le_refl _) hsh.2)) | exact (Vw.pick 2 rfl (vw_subF Vw.row Tx.len hkl (Nat.le_refl _) hsh.2)) | exact (Vw.pick 3 rfl (vw_subF Vw.row Tx.len hkl (Nat.le_refl _) hsh.2)) | exact (Vw.pick 4 rfl (vw_subF Vw.row Tx.len hkl (Nat.le_refl _) hsh.2)) | exact (Vw.pick 5 rfl (vw_subF Vw.row Tx.len hkl (Nat.le_refl _) hsh.2)) | exact (Vw.pick 6 rfl (vw_subF Vw.row Tx.len hkl (Nat.le_refl _) hsh.2)) | exact (Vw.pick 7 rfl (vw_subF Vw.row Tx.len hkl (Nat.le_refl _) hsh.2)) | exact (Vw.pick 8 rfl (vw_subF Vw.row Tx.len hkl (Nat.le_refl _) hsh.2)) | exact Vw.pick 0 rfl Vw.row | exact Vw.pick 1 rfl Vw.row | exact Vw.pick 2 rfl Vw.row | exact Vw.pick 3 rfl Vw.row | exact Vw.pick 4 rfl Vw.row | exact Vw.pick 5 rfl Vw.row | exact Vw.pick 6 rfl Vw.row | exact Vw.pick 7 rfl Vw.row | exact Vw.pick 8 rfl Vw.row | exact Vw.nil _ | exact Vw.empty _ _) (by omega))) rfl ?_
            rintro _ H' ⟨_, ⟨rfl, rfl⟩, hH⟩
            simp only [List.cons_append, List.nil_append, List.eraseIdx_cons_zero, List.eraseIdx_cons_succ, List.set_cons_zero, List.set_cons_succ] at hH
            subst hH
            rw [decide_eq_true rfl]
            refine ops_ro' rfl (ro_pick rfl rfl) rfl ?_
            refine ops_ro' rfl (ro_move (v := .bool true) rfl) rfl ?_
            refine ops_ro' rfl (ro_move rfl) rfl ?_
            refine ops_ro' rfl (ro_move rfl) rfl ?_
            refine ops_eff' rfl (eff_callM (Pre := []) Tryd.call15 rfl rfl (Split.nil _) (ktexts_spec _ nm nm _ _ _ _ (by first | exact (Vw.pick 0 rfl (vw_subF Vw.row Tx.len (Nat.zero_le _) hkl hsh.2)) | exact (Vw.pick 1 rfl (vw_subF Vw.row Tx.len (Nat.zero_le _) hkl hsh.2)) | exact (Vw.pick 2 rfl (vw_subF Vw.row Tx.len (Nat.zero_le _) hkl hsh.2)) | exact (Vw.pick 3 rfl (vw_subF Vw.row Tx.len (Nat.zero_le _) hkl hsh.2)) | exact (Vw.pick 4 rfl (vw_subF Vw.row Tx.len (Nat.zero_le _) hkl hsh.2)) | exact (Vw.pick 5 rfl (vw_subF Vw.row Tx.len (Nat.zero_le _) hkl hsh.2)) | exact (Vw.pick 6 rfl (vw_subF Vw.row Tx.len (Nat.zero_le _) hkl hsh.2)) | exact (Vw.pick 7 rfl (vw_subF Vw.row Tx.len (Nat.zero_le _) hkl hsh.2)) | exact (Vw.pick 8 rfl (vw_subF Vw.row Tx.len (Nat.zero_le _) hkl hsh.2)) | exact (Vw.pick 0 rfl (vw_subF Vw.row Tx.len hkl (Nat.le_refl _) hsh.2)) | exact (Vw.pick 1 rfl (vw_subF Vw.row Tx.len hkl (Nat.le_refl _) hsh.2)) | exact (Vw.pick 2 rfl (vw_subF Vw.row Tx.len hkl (Nat.le_refl _) hsh.2)) | exact (Vw.pick 3 rfl (vw_subF Vw.row Tx.len hkl (Nat.le_refl _) hsh.2)) | exact (Vw.pick 4 rfl (vw_subF Vw.row Tx.len hkl (Nat.le_refl _) hsh.2)) | exact (Vw.pick 5 rfl (vw_subF Vw.row Tx.len hkl (Nat.le_refl _) hsh.2)) | exact (Vw.pick 6 rfl (vw_subF Vw.row Tx.len hkl (Nat.le_refl _) hsh.2)) | exact (Vw.pick 7 rfl (vw_subF Vw.row Tx.len hkl (Nat.le_refl _) hsh.2)) | exact (Vw.pick 8 rfl (vw_subF Vw.row Tx.len hkl (Nat.le_refl _) hsh.2)) | exact Vw.pick 0 rfl Vw.row | exact Vw.pick 1 rfl Vw.row | exact Vw.pick 2 rfl Vw.row | exact Vw.pick 3 rfl Vw.row | exact Vw.pick 4 rfl Vw.row | exact Vw.pick 5 rfl Vw.row | exact Vw.pick 6 rfl Vw.row | exact Vw.pick 7 rfl Vw.row | exact Vw.pick 8 rfl Vw.row | exact Vw.nil _ | exact Vw.empty _ _) (by first | exact (Vw.pick 0 rfl (vw_subF Vw.row Tx.len (Nat.zero_le _) hkl hsh.2)) | exact (Vw.pick 1 rfl (vw_subF Vw.row Tx.len (Nat.zero_le _) hkl hsh.2)) | exact (Vw.pick 2 rfl (vw_subF Vw.row Tx.len (Nat.zero_le _) hkl hsh.2)) | exact (Vw.pick 3 rfl (vw_subF Vw.row Tx.len (Nat.zero_le _) hkl hsh.2)) | exact (Vw.pick 4 rfl (vw_subF Vw.row Tx.len (Nat.zero_le _) hkl hsh.2)) | exact (Vw.pick 5 rfl (vw_subF Vw.row Tx.len (Nat.zero_le _) hkl hsh.2)) | exact (Vw.pick 6 rfl (vw_subF Vw.row Tx.len (Nat.zero_le _) hkl hsh.2)) | exact (Vw.pick 7 rfl (vw_subF Vw.row Tx.len (Nat.zero_le _) hkl hsh.2)) | exact (Vw.pick 8 rfl (vw_subF Vw.row Tx.len (Nat.zero_le _) hkl hsh.2)) | exact (Vw.pick 0 rfl (vw_subF Vw.row Tx.len hkl (Nat.le_refl _) hsh.2)) | exact (Vw.pick 1 rfl (vw_subF Vw.row Tx.len hkl (Nat.le_refl _) hsh.2)) | exact (Vw.pick 2 rfl (vw_subF Vw.row Tx.len hkl (Nat.le_refl _) hsh.2)) | exact (Vw.pick 3 rfl (vw_subF Vw.row Tx.len hkl (Nat.le_refl _) hsh.2)) | exact (Vw.pick 4 rfl (vw_subF Vw.row Tx.len hkl (Nat.le_refl _) hsh.2)) | exact (Vw.pick 5 rfl (vw_subF Vw.row Tx.len hkl (Nat.le_refl _) hsh.2)) | exact (Vw.pick 6 rfl (vw_subF Vw.row Tx.len hkl (Nat.le_refl _) hsh.2)) | exact (Vw.pick 7 rfl (vw_subF Vw.row Tx.len hkl (Nat.le_refl _) hsh.2)) | exact (Vw.pick 8 rfl (vw_subF Vw.row Tx.len hkl (Nat.le_refl _) hsh.2)) | exact Vw.pick 0 rfl Vw.row | exact Vw.pick 1 rfl Vw.row | exact Vw.pick 2 rfl Vw.row | exact Vw.pick 3 rfl Vw.row | exact Vw.pick 4 rfl Vw.row | exact Vw.pick 5 rfl Vw.row | exact Vw.pick 6 rfl Vw.row | exact Vw.pick 7 rfl Vw.row | exact Vw.pick 8 rfl Vw.row | exact Vw.nil _ | exact Vw.empty _ _) (by omega))) rfl ?_
            rintro _ H' ⟨_, ⟨rfl, rfl⟩, hH⟩
            simp only [List.cons_append, List.nil_append, List.eraseIdx_cons_zero, List.eraseIdx_cons_succ, List.set_cons_zero, List.set_cons_succ] at hH
            subst hH
            rw [decide_eq_true rfl]
            refine ops_ro' rfl (ro_pick rfl rfl) rfl ?_
            refine ops_ro' rfl (ro_move (v := .bool true) rfl) rfl ?_
            refine ops_ro' rfl (ro_move rfl) rfl ?_
            refine ops_ro' rfl (ro_move rfl) rfl ?_
            refine ops_eff' rfl (eff_callM (Pre := []) Tryd.call18 rfl rfl (Split.nil _) (ptJoin_spec _ p7 c7 nm (by first | exact (Vw.pick 0 rfl (vw_subF Vw.row Tx.len (Nat.zero_le _) hkl hsh.2)) | exact (Vw.pick 1 rfl (vw_subF Vw.row Tx.len (Nat.zero_le _) hkl hsh.2)) | exact (Vw.pick 2 rfl (vw_subF Vw.row Tx.len (Nat.zero_le _) hkl hsh.2)) | exact (Vw.pick 3 rfl (vw_subF Vw.row Tx.len (Nat.zero_le _) hkl hsh.2)) | exact (Vw.pick 4 rfl (vw_subF Vw.row Tx.len (Nat.zero_le _) hkl hsh.2)) | exact (Vw.pick 5 rfl (vw_subF Vw.row Tx.len (Nat.zero_le _) hkl hsh.2)) | exact (Vw.pick 6 rfl (vw_subF Vw.row Tx.len (Nat.zero_le _) hkl hsh.2)) | exact (Vw.pick 7 rfl (vw_subF Vw.row Tx.len (Nat.zero_le _) hkl hsh.2)) | exact (Vw.pick 8 rfl (vw_subF Vw.row Tx.len (Nat.zero_le _) hkl hsh.2)) | exact (Vw.pick 0 rfl (vw_subF Vw.row Tx.len hkl (Nat.le_refl _) hsh.2)) | exact (Vw.pick 1 rfl (vw_subF Vw.row Tx.len hkl (Nat.le_refl _) hsh.2)) | exact (Vw.pick 2 rfl (vw_subF Vw.row Tx.len hkl (Nat.le_refl _) hsh.2)) | exact (Vw.pick 3 rfl (vw_subF Vw.row Tx.len hkl (Nat.le_refl _) hsh.2)) | exact (Vw.pick 4 rfl (vw_subF Vw.row Tx.len hkl (Nat.le_refl _) hsh.2)) | exact (Vw.pick 5 rfl (vw_subF Vw.row Tx.len hkl (Nat.le_refl _) hsh.2)) | exact (Vw.pick 6 rfl (vw_subF Vw.row Tx.len hkl (Nat.le_refl _) hsh.2)) | exact (Vw.pick 7 rfl (vw_subF Vw.row Tx.len hkl (Nat.le_refl _) hsh.2)) | exact (Vw.pick 8 rfl (vw_subF Vw.row Tx.len hkl (Nat.le_refl _) hsh.2)) | exact Vw.pick 0 rfl Vw.row | exact Vw.pick 1 rfl Vw.row | exact Vw.pick 2 rfl Vw.row | exact Vw.pick 3 rfl Vw.row | exact Vw.pick 4 rfl Vw.row | exact Vw.pick 5 rfl Vw.row | exact Vw.pick 6 rfl Vw.row | exact Vw.pick 7 rfl Vw.row | exact Vw.pick 8 rfl Vw.row | exact Vw.nil _ | exact Vw.empty _ _) hcn (by omega) h300)) rfl ?_
            rintro _ H' ⟨_, ⟨rfl, rfl⟩, hH⟩
            simp only [List.cons_append, List.nil_append, List.eraseIdx_cons_zero, List.eraseIdx_cons_succ, List.set_cons_zero, List.set_cons_succ] at hH
            subst hH
            refine ops_ro' rfl (ro_eqlS rfl rfl (decide_eq_true rfl)) rfl ?_
            refine ops_ro' rfl (ro_pick rfl rfl) rfl ?_
            refine ops_ro' rfl (ro_move (v := .bool true) rfl) rfl ?_
            refine ops_eff' rfl (eff_call Tryd.call19 rfl rfl (by repeat (first | exact Split.nil _ | apply Split.cons 0 rfl | apply Split.cons 1 rfl | apply Split.cons 2 rfl | apply Split.cons 3 rfl | apply Split.cons 4 rfl | apply Split.cons 5 rfl | apply Split.cons 6 rfl | apply Split.cons 7 rfl | apply Split.cons 8 rfl | apply Split.cons 9 rfl | apply Split.cons 10 rfl | apply Split.cons 11 rfl)) (known13_spec V hM)) rfl ?_
            rintro _ H' ⟨_, ⟨rfl, rfl⟩, hH⟩
            simp only [List.cons_append, List.nil_append, List.eraseIdx_cons_zero, List.eraseIdx_cons_succ, List.set_cons_zero, List.set_cons_succ] at hH
            subst hH
            refine ops_ro' rfl (ro_pick rfl rfl) rfl ?_
            refine ops_ro' rfl (ro_assign rfl) rfl ?_
            refine ops_nil ?_
            refine Then_normal ?_
            refine wp_ret' ?_
            refine' doneS_ret (res1 rfl rfl) ?_ ?_
            rotate_left 1
            exact ⟨rfl, rfl⟩
            exact (SubH.cons 0 rfl (SubH.nil _))
  · replace hg22 := of_decide_eq_false hg22
    refine ops_skip' rfl rfl ?_
    refine ops_skip' rfl rfl ?_
    refine ops_ro' rfl (ro_pick rfl rfl) rfl ?_
    refine ops_nil ?_
    refine Then_normal ?_
    refine wp_condF rfl ?_
    refine wp_exit' ?_
    refine Then_exit ?_
    refine Then_exit ?_
    refine InBlock_here ?_
    refine Then_normal ?_
    refine wp_cutK 1009 (fun Δ LL => ∃ (a : Int), (0 ≤ a ∧ a ≤ 9223372036854775807) ∧ Δ = [(1, .int .i64 a)] ∧ LL = [row 9 1 (.slice p7 nm.length c7) nm.length (txs nm), V]) (Has.cons (k := 2) rfl (Has.cons (k := 7) rfl (Has.nil _))) ?_ ?_
    · refine wp_seq' ?_
      refine wp_region' ?_
      refine ops_ro' rfl (ro_move rfl) rfl ?_
      refine ops_ro' rfl (ro_lss rfl rfl rfl) rfl ?_
      refine ops_nil ?_
      refine Then_normal ?_
      refine wp_cond' rfl (fun hc49 => ?_) (fun hc49 => ?_)
      · replace hc49 := of_decide_eq_true hc49
        refine wp_region' ?_
        refine ops_ro' rfl (ro_move rfl) rfl ?_
        refine ops_ro' rfl (ro_add rfl rfl (wrap_i64_in (by omega) (by omega))) rfl ?_
        refine ops_ro' rfl (ro_neg rfl (by first | exact wrap_i64_in (by omega) (by omega) | rfl)) rfl ?_
        refine ops_ro' rfl (ro_assign rfl) rfl ?_
        refine ops_nil ?_
        refine Then_normal ?_
        refine over_cut (kept ⟨0 - (at' + 1), (by refine ⟨?_, ?_⟩ <;> omega), rfl, rfl⟩ ?_ ?_ ?_)
        · exact (by repeat (first | exact Has.nil _ | refine Has.cons rfl ?_))
        · exact (by repeat (first | exact Has.nil _ | refine Has.cons rfl ?_))
        · exact SubH.refl _
      · replace hc49 := of_decide_eq_false hc49
        refine wp_skip' ?_
        refine Then_normal ?_
        refine over_cut (kept ⟨at', (by refine ⟨?_, ?_⟩ <;> omega), rfl, rfl⟩ ?_ ?_ ?_)
        · exact (by repeat (first | exact Has.nil _ | refine Has.cons rfl ?_))
        · exact (by repeat (first | exact Has.nil _ | refine Has.cons rfl ?_))
        · exact SubH.refl _
    · rintro Δ LL ⟨a, ⟨ha, ha2⟩, rfl, rfl⟩
      simp only [List.cons_append, List.nil_append]
      refine wp_cutK 1011 (fun Δ LL => ∃ (b : Int), (0 ≤ b ∧ b ≤ 9223372036854775807) ∧ Δ = [(2, .int .i64 b)] ∧ LL = [row 9 1 (.slice p7 nm.length c7) nm.length (txs nm), V]) (Has.cons (k := 1) rfl (Has.cons (k := 7) rfl (Has.nil _))) ?_ ?_
      · refine wp_seq' ?_
        refine wp_region' ?_
        refine ops_ro' rfl (ro_move rfl) rfl ?_
        refine ops_ro' rfl (ro_lss rfl rfl rfl) rfl ?_
        refine ops_nil ?_
        refine Then_normal ?_
        refine wp_cond' rfl (fun hc54 => ?_) (fun hc54 => ?_)
        · replace hc54 := of_decide_eq_true hc54
          refine wp_region' ?_
          refine ops_ro' rfl (ro_move rfl) rfl ?_
          refine ops_ro' rfl (ro_add rfl rfl (wrap_i64_in (by omega) (by omega))) rfl ?_
          refine ops_ro' rfl (ro_neg rfl (by first | exact wrap_i64_in (by omega) (by omega) | rfl)) rfl ?_
          refine ops_ro' rfl (ro_assign rfl) rfl ?_
          refine ops_nil ?_
          refine Then_normal ?_
          refine over_cut (kept ⟨0 - (how + 1), (by refine ⟨?_, ?_⟩ <;> omega), rfl, rfl⟩ ?_ ?_ ?_)
          · exact (by repeat (first | exact Has.nil _ | refine Has.cons rfl ?_))
          · exact (by repeat (first | exact Has.nil _ | refine Has.cons rfl ?_))
          · exact SubH.refl _
        · replace hc54 := of_decide_eq_false hc54
          refine wp_skip' ?_
          refine Then_normal ?_
          refine over_cut (kept ⟨how, (by refine ⟨?_, ?_⟩ <;> omega), rfl, rfl⟩ ?_ ?_ ?_)
          · exact (by repeat (first | exact Has.nil _ | refine Has.cons rfl ?_))
          · exact (by repeat (first | exact Has.nil _ | refine Has.cons rfl ?_))
          · exact SubH.refl _
      · rintro Δ LL ⟨b, ⟨hb, hb2⟩, rfl, rfl⟩
        simp only [List.cons_append, List.nil_append]
        refine wp_seq' ?_
        obtain ⟨k, rfl⟩ := Int.eq_ofNat_of_zero_le ha
        have hkl := Nat.mod_lt k (show 0 < nm.length + 1 by omega)
        refine wp_region' ?_
        refine ops_ro' rfl (ro_move rfl) rfl ?_
        refine ops_ro' rfl (ro_move rfl) rfl ?_
        refine ops_ro' rfl (ro_sliceLen Tryd.underlying24 rfl) rfl ?_
        refine ops_ro' rfl (ro_add rfl rfl (wrap_inc (by omega))) rfl ?_
        refine ops_ro' rfl (ro_rem rfl rfl (by omega) tmodN) rfl ?_
        replace hkl := Nat.le_of_lt_succ hkl
        generalize k % (nm.length + 1) = k at *
        refine ops_ro' rfl (ro_assign rfl) rfl ?_
        refine ops_nil ?_
        refine Then_normal ?_
        refine wp_cutK 1013 (fun Δ LL => ∃ (wd : List UInt8) (p78 : Option Addr) (c78 : Nat), (wd.length ≤ 9 ∧ ∀ o, pRun (some o) (parts 47 wd) = some o) ∧ Δ = [(10, .slice p78 (nm.take k ++ [wd] ++ nm.drop k).length c78)] ∧ LL = [row 9 1 (.slice p78 (nm.take k ++ [wd] ++ nm.drop k).length c78) (nm.take k ++ [wd] ++ nm.drop k).length (txs (nm.take k ++ [wd] ++ nm.drop k)), row 9 1 (.slice p7 nm.length c7) nm.length (txs nm), V]) (Has.cons (k := 7) rfl (Has.nil _)) ?_ ?_
        · obtain ⟨h, rfl⟩ := Int.eq_ofNat_of_zero_le hb
          have hh4 := Nat.mod_lt h (show 0 < 4 by omega)
          obtain ⟨wd, hws⟩ : ∃ wd, dws[h % 4]? = some wd := ⟨_, List.getElem?_eq_getElem (show h % 4 < dws.length from hh4)⟩
          obtain ⟨hwl, hwr⟩ := dws_ok (List.mem_of_getElem? hws)
          refine wp_know (fun w F s => row_shp 0 rfl s) ?_
          intro hsh
          refine wp_draw 16 (by kernel_rfl) (Split.nil _) ?_
          refine any_ro' (i := 1) (by kernel_rfl) rfl rfl (ro_move rfl) rfl (fun _ _ _ h => h) ?_
          refine any_ro' (i := 2) (by kernel_rfl) rfl rfl (ro_move rfl) rfl (fun _ _ _ h => h) ?_
          refine any_ro' (i := 3) (by kernel_rfl) rfl rfl (ro_sliceP sl24 rfl hsh rfl (bnd_of rfl rfl) (by omega) (by omega)) rfl (fun _ _ _ h => h) ?_
          refine any_ro' (i := 6) (by kernel_rfl) rfl rfl (ro_move rfl) rfl (fun _ _ _ h => h) ?_
          refine any_ro' (i := 7) (by kernel_rfl) rfl rfl (ro_rem rfl rfl (by omega) tmodN) rfl (fun _ _ _ h => h) ?_
          refine any_ro' (i := 12) (by kernel_rfl) rfl rfl (ro_move rfl) rfl (fun _ _ _ h => h) ?_
          refine any_ro' (i := 13) (by kernel_rfl) rfl rfl (ro_move rfl) rfl (fun _ _ _ h => h) ?_
          refine any_ro' (i := 14) (by kernel_rfl) rfl rfl (ro_sliceP sl24 rfl hsh (bnd_of rfl rfl) rfl (by omega) (by omega)) rfl (fun _ _ _ h => h) ?_
          refine any_two (i := 0) (j := 5) (by kernel_rfl) ?_ ?_
          · refine at_eff' rfl rfl (eff_lit sl24 rfl (sbld (cs := []) [] sl24 (by decide) (by kernel_rfl) rfl) rfl (by decide)) rfl ?_
            rintro _ _ ⟨b63, rfl, rfl⟩
            refine any_two (i := 4) (j := 5) (by kernel_rfl) ?_ ?_
            · refine at_eff' rfl rfl (eff_appF (f := Tx.cs) (l := []) (l2 := (nm.drop 0).take (k - 0)) 0 sl24 (.inl ⟨9, Tryd.underlying24⟩) rfl rfl rfl (by first | exact Src.flatv Tx.len Tx.one (Vw.pick 0 rfl (vw_subF Vw.row Tx.len (Nat.zero_le _) hkl hsh.2)) | exact Src.flatv Tx.len Tx.one (Vw.pick 1 rfl (vw_subF Vw.row Tx.len (Nat.zero_le _) hkl hsh.2)) | exact Src.flatv Tx.len Tx.one (Vw.pick 2 rfl (vw_subF Vw.row Tx.len (Nat.zero_le _) hkl hsh.2)) | exact Src.flatv Tx.len Tx.one (Vw.pick 3 rfl (vw_subF Vw.row Tx.len (Nat.zero_le _) hkl hsh.2)) | exact Src.flatv Tx.len Tx.one (Vw.pick 4 rfl (vw_subF Vw.row Tx.len (Nat.zero_le _) hkl hsh.2)) | exact Src.flatv Tx.len Tx.one (Vw.pick 5 rfl (vw_subF Vw.row Tx.len (Nat.zero_le _) hkl hsh.2)) | exact Src.flatv Tx.len Tx.one (Vw.pick 6 rfl (vw_subF Vw.row Tx.len (Nat.zero_le _) hkl hsh.2)) | exact Src.flatv Tx.len Tx.one (Vw.pick 7 rfl (vw_subF Vw.row Tx.len (Nat.zero_le _) hkl hsh.2)) | exact Src.flatv Tx.len Tx.one (Vw.pick 8 rfl (vw_subF Vw.row Tx.len (Nat.zero_le _) hkl hsh.2)) | exact Src.flatv Tx.len Tx.one (Vw.pick 0 rfl (vw_subF Vw.row Tx.len hkl (Nat.le_refl _) hsh.2)) | exact Src.flatv Tx.len Tx.one (Vw.pick 1 rfl (vw_subF Vw.row Tx.len hkl (Nat.le_refl _) hsh.2)) | exact Src.flatv Tx.len Tx.one (Vw.pick 2 rfl (vw_subF Vw.row Tx.len hkl (Nat.le_refl _) hsh.2)) | exact Src.flatv Tx.len Tx.one (Vw.pick 3 rfl (vw_subF Vw.row Tx.len hkl (Nat.le_refl _) hsh.2)) | exact Src.flatv Tx.len Tx.one (Vw.pick 4 rfl (vw_subF Vw.row Tx.len hkl (Nat.le_refl _) hsh.2)) | exact Src.flatv Tx.len Tx.one (Vw.pick 5 rfl (vw_subF Vw.row Tx.len hkl (Nat.le_refl _) hsh.2)) | exact Src.flatv Tx.len Tx.one (Vw.pick 6 rfl (vw_subF Vw.row Tx.len hkl (Nat.le_refl _) hsh.2)) | exact Src.flatv Tx.len Tx.one (Vw.pick 7 rfl (vw_subF Vw.row Tx.len hkl (Nat.le_refl _) hsh.2)) | exact Src.flatv Tx.len Tx.one (Vw.pick 8 rfl (vw_subF Vw.row Tx.len hkl (Nat.le_refl _) hsh.2)) | exact Src.flatv Tx.len Tx.one (Vw.pick 0 rfl Vw.row) | exact Src.flatv Tx.len Tx.one (Vw.pick 1 rfl Vw.row) | exact Src.flatv Tx.len Tx.one (Vw.pick 2 rfl Vw.row) | exact Src.flatv Tx.len Tx.one (Vw.pick 3 rfl Vw.row) | exact Src.flatv Tx.len Tx.one (Vw.pick 4 rfl Vw.row) | exact Src.flatv Tx.len Tx.one (Vw.pick 5 rfl Vw.row) | exact Src.flatv Tx.len Tx.one (Vw.pick 6 rfl Vw.row) | exact Src.flatv Tx.len Tx.one (Vw.pick 7 rfl Vw.row) | exact Src.flatv Tx.len Tx.one (Vw.pick 8 rfl Vw.row)) (by simp only [List.length_take, List.length_drop, List.length_nil]; omega) (by simp only [List.length_take, List.length_drop, List.length_nil]; omega)) rfl ?_
              rintro _ _ ⟨p67, c67, rfl, hn67, rfl⟩
              simp only [List.set_cons_zero, List.set_cons_succ, List.nil_append]
              rw [show (nm.drop 0).take (k - 0) = nm.take k from by simp]
              refine any_eff' (i := 5) (by kernel_rfl) rfl rfl (eff_lit sl24 rfl (sbld (cs := txs dws) [(.string ByteArray.empty), (.string ByteArray.empty), (.string ByteArray.empty), (.string ByteArray.empty)] sl24 (by decide) (by kernel_rfl) rfl) rfl (by decide)) rfl ?_
              rintro _ _ ⟨b68, rfl, rfl⟩
              refine any_lock 0 rfl ?_
              simp only [List.eraseIdx_cons_zero, List.eraseIdx_cons_succ]
              refine any_ro' (i := 8) (by kernel_rfl) rfl rfl (ro_indexSlice sl24 rfl rfl rfl (by omega)) rfl (fun _ _ _ h => h) ?_
              refine any_ro' (i := 9) (by kernel_rfl) rfl rfl (ro_load sc9 rfl (Rd.pick 0 rfl (Rd.elem (j := 0) (RdN.row) Tx.len hws rfl))) rfl (fun _ _ _ h => h) ?_
              refine any_eff' (i := 10) (by kernel_rfl) rfl rfl (eff_lit sl24 rfl (sbld (cs := txs [wd]) [(.string ByteArray.empty)] sl24 (by decide) (by kernel_rfl) rfl) rfl (by decide)) rfl ?_
              rintro _ _ ⟨b73, rfl, rfl⟩
              refine any_eff' (i := 11) (by kernel_rfl) rfl rfl (eff_appF (f := Tx.cs) (l2 := [wd]) 1 sl24 (.inl ⟨9, Tryd.underlying24⟩) rfl rfl rfl (by first | exact Src.flatv Tx.len Tx.one (Vw.pick 0 rfl (vw_subF Vw.row Tx.len (Nat.zero_le _) hkl hsh.2)) | exact Src.flatv Tx.len Tx.one (Vw.pick 1 rfl (vw_subF Vw.row Tx.len (Nat.zero_le _) hkl hsh.2)) | exact Src.flatv Tx.len Tx.one (Vw.pick 2 rfl (vw_subF Vw.row Tx.len (Nat.zero_le _) hkl hsh.2)) | exact Src.flatv Tx.len Tx.one (Vw.pick 3 rfl (vw_subF Vw.row Tx.len (Nat.zero_le _) hkl hsh.2)) | exact Src.flatv Tx.len Tx.one (Vw.pick 4 rfl (vw_subF Vw.row Tx.len (Nat.zero_le _) hkl hsh.2)) | exact Src.flatv Tx.len Tx.one (Vw.pick 5 rfl (vw_subF Vw.row Tx.len (Nat.zero_le _) hkl hsh.2)) | exact Src.flatv Tx.len Tx.one (Vw.pick 6 rfl (vw_subF Vw.row Tx.len (Nat.zero_le _) hkl hsh.2)) | exact Src.flatv Tx.len Tx.one (Vw.pick 7 rfl (vw_subF Vw.row Tx.len (Nat.zero_le _) hkl hsh.2)) | exact Src.flatv Tx.len Tx.one (Vw.pick 8 rfl (vw_subF Vw.row Tx.len (Nat.zero_le _) hkl hsh.2)) | exact Src.flatv Tx.len Tx.one (Vw.pick 0 rfl (vw_subF Vw.row Tx.len hkl (Nat.le_refl _) hsh.2)) | exact Src.flatv Tx.len Tx.one (Vw.pick 1 rfl (vw_subF Vw.row Tx.len hkl (Nat.le_refl _) hsh.2)) | exact Src.flatv Tx.len Tx.one (Vw.pick 2 rfl (vw_subF Vw.row Tx.len hkl (Nat.le_refl _) hsh.2)) | exact Src.flatv Tx.len Tx.one (Vw.pick 3 rfl (vw_subF Vw.row Tx.len hkl (Nat.le_refl _) hsh.2)) | exact Src.flatv Tx.len Tx.one (Vw.pick 4 rfl (vw_subF Vw.row Tx.len hkl (Nat.le_refl _) hsh.2)) | exact Src.flatv Tx.len Tx.one (Vw.pick 5 rfl (vw_subF Vw.row Tx.len hkl (Nat.le_refl _) hsh.2)) | exact Src.flatv Tx.len Tx.one (Vw.pick 6 rfl (vw_subF Vw.row Tx.len hkl (Nat.le_refl _) hsh.2)) | exact Src.flatv Tx.len Tx.one (Vw.pick 7 rfl (vw_subF Vw.row Tx.len hkl (Nat.le_refl _) hsh.2)) | exact Src.flatv Tx.len Tx.one (Vw.pick 8 rfl (vw_subF Vw.row Tx.len hkl (Nat.le_refl _) hsh.2)) | exact Src.flatv Tx.len Tx.one (Vw.pick 0 rfl Vw.row) | exact Src.flatv Tx.len Tx.one (Vw.pick 1 rfl Vw.row) | exact Src.flatv Tx.len Tx.one (Vw.pick 2 rfl Vw.row) | exact Src.flatv Tx.len Tx.one (Vw.pick 3 rfl Vw.row) | exact Src.flatv Tx.len Tx.one (Vw.pick 4 rfl Vw.row) | exact Src.flatv Tx.len Tx.one (Vw.pick 5 rfl Vw.row) | exact Src.flatv Tx.len Tx.one (Vw.pick 6 rfl Vw.row) | exact Src.flatv Tx.len Tx.one (Vw.pick 7 rfl Vw.row) | exact Src.flatv Tx.len Tx.one (Vw.pick 8 rfl Vw.row)) (by simp only [List.length_take, List.length_cons, List.length_nil]; omega) (by simp only [List.length_take, List.length_cons, List.length_nil]; omega)) rfl ?_
              rintro _ _ ⟨p74, c74, rfl, hn74, rfl⟩
              simp only [List.set_cons_zero, List.set_cons_succ]
              refine any_eff' (i := 15) (by kernel_rfl) rfl rfl (eff_appF (f := Tx.cs) (l2 := (nm.drop k).take (nm.length - k)) 1 sl24 (.inl ⟨9, Tryd.underlying24⟩) rfl rfl rfl (by first | exact Src.flatv Tx.len Tx.one (Vw.pick 0 rfl (vw_subF Vw.row Tx.len (Nat.zero_le _) hkl hsh.2)) | exact Src.flatv Tx.len Tx.one (Vw.pick 1 rfl (vw_subF Vw.row Tx.len (Nat.zero_le _) hkl hsh.2)) | exact Src.flatv Tx.len Tx.one (Vw.pick 2 rfl (vw_subF Vw.row Tx.len (Nat.zero_le _) hkl hsh.2)) | exact Src.flatv Tx.len Tx.one (Vw.pick 3 rfl (vw_subF Vw.row Tx.len (Nat.zero_le _) hkl hsh.2)) | exact Src.flatv Tx.len Tx.one (Vw.pick 4 rfl (vw_subF Vw.row Tx.len (Nat.zero_le _) hkl hsh.2)) | exact Src.flatv Tx.len Tx.one (Vw.pick 5 rfl (vw_subF Vw.row Tx.len (Nat.zero_le _) hkl hsh.2)) | exact Src.flatv Tx.len Tx.one (Vw.pick 6 rfl (vw_subF Vw.row Tx.len (Nat.zero_le _) hkl hsh.2)) | exact Src.flatv Tx.len Tx.one (Vw.pick 7 rfl (vw_subF Vw.row Tx.len (Nat.zero_le _) hkl hsh.2)) | exact Src.flatv Tx.len Tx.one (Vw.pick 8 rfl (vw_subF Vw.row Tx.len (Nat.zero_le _) hkl hsh.2)) | exact Src.flatv Tx.len Tx.one (Vw.pick 0 rfl (vw_subF Vw.row Tx.len hkl (Nat.le_refl _) hsh.2)) | exact Src.flatv Tx.len Tx.one (Vw.pick 1 rfl (vw_subF Vw.row Tx.len hkl (Nat.le_refl _) hsh.2)) | exact Src.flatv Tx.len Tx.one (Vw.pick 2 rfl (vw_subF Vw.row Tx.len hkl (Nat.le_refl _) hsh.2)) | exact Src.flatv Tx.len Tx.one (Vw.pick 3 rfl (vw_subF Vw.row Tx.len hkl (Nat.le_refl _) hsh.2)) | exact Src.flatv Tx.len Tx.one (Vw.pick 4 rfl (vw_subF Vw.row Tx.len hkl (Nat.le_refl _) hsh.2)) | exact Src.flatv Tx.len Tx.one (Vw.pick 5 rfl (vw_subF Vw.row Tx.len hkl (Nat.le_refl _) hsh.2)) | exact Src.flatv Tx.len Tx.one (Vw.pick 6 rfl (vw_subF Vw.row Tx.len hkl (Nat.le_refl _) hsh.2)) | exact Src.flatv Tx.len Tx.one (Vw.pick 7 rfl (vw_subF Vw.row Tx.len hkl (Nat.le_refl _) hsh.2)) | exact Src.flatv Tx.len Tx.one (Vw.pick 8 rfl (vw_subF Vw.row Tx.len hkl (Nat.le_refl _) hsh.2)) | exact Src.flatv Tx.len Tx.one (Vw.pick 0 rfl Vw.row) | exact Src.flatv Tx.len Tx.one (Vw.pick 1 rfl Vw.row) | exact Src.flatv Tx.len Tx.one (Vw.pick 2 rfl Vw.row) | exact Src.flatv Tx.len Tx.one (Vw.pick 3 rfl Vw.row) | exact Src.flatv Tx.len Tx.one (Vw.pick 4 rfl Vw.row) | exact Src.flatv Tx.len Tx.one (Vw.pick 5 rfl Vw.row) | exact Src.flatv Tx.len Tx.one (Vw.pick 6 rfl Vw.row) | exact Src.flatv Tx.len Tx.one (Vw.pick 7 rfl Vw.row) | exact Src.flatv Tx.len Tx.one (Vw.pick 8 rfl Vw.row)) (by simp only [List.length_append, List.length_take, List.length_drop, List.length_cons, List.length_nil]; omega) (by simp only [List.length_append, List.length_take, List.length_drop, List.length_cons, List.length_nil]; omega)) rfl ?_
              rintro _ _ ⟨p78, c78, rfl, hn78, rfl⟩
              simp only [List.set_cons_zero, List.set_cons_succ]
              rw [show (nm.drop k).take (nm.length - k) = nm.drop k from List.take_of_length_le (by simp)]
              refine any_unlock (m' := 17) (L' := []) (by kernel_rfl) unlock ?_
              simp only [List.cons_append, List.nil_append, List.append_nil]
              refine any_ro' (i := 16) (by kernel_rfl) rfl rfl (ro_assign rfl) rfl (fun _ _ _ h => h) ?_
              refine any_doneH (by kernel_rfl) ?_
              refine Then_normal ?_
              refine over_cut (kept ⟨wd, p78, c78, ⟨hwl, hwr⟩, rfl, rfl⟩ ?_ ?_ ?_)
              · exact (by repeat (first | exact Has.nil _ | refine Has.cons rfl ?_))
              · exact (by repeat (first | exact Has.nil _ | refine Has.cons rfl ?_))
              · exact (SubH.cons 2 rfl (SubH.cons 2 rfl (SubH.cons 2 rfl (SubH.nil _))))
            · refine at_eff' rfl rfl (eff_lit sl24 rfl (sbld (cs := txs dws) [(.string ByteArray.empty), (.string ByteArray.empty), (.string ByteArray.empty), (.string ByteArray.empty)] sl24 (by decide) (by kernel_rfl) rfl) rfl (by decide)) rfl ?_
              rintro _ _ ⟨b68, rfl, rfl⟩
              refine any_lock 0 rfl ?_
              simp only [List.eraseIdx_cons_zero, List.eraseIdx_cons_succ]
              refine any_ro' (i := 8) (by kernel_rfl) rfl rfl (ro_indexSlice sl24 rfl rfl rfl (by omega)) rfl (fun _ _ _ h => h) ?_
              refine any_ro' (i := 9) (by kernel_rfl) rfl rfl (ro_load sc9 rfl (Rd.pick 0 rfl (Rd.elem (j := 0) (RdN.row) Tx.len hws rfl))) rfl (fun _ _ _ h => h) ?_
              refine any_two (i := 4) (j := 10) (by kernel_rfl) ?_ ?_
              · refine at_eff' rfl rfl (eff_appF (f := Tx.cs) (l := []) (l2 := (nm.drop 0).take (k - 0)) 0 sl24 (.inl ⟨9, Tryd.underlying24⟩) rfl rfl rfl (by first | exact Src.flatv Tx.len Tx.one (Vw.pick 0 rfl (vw_subF Vw.row Tx.len (Nat.zero_le _) hkl hsh.2)) | exact Src.flatv Tx.len Tx.one (Vw.pick 1 rfl (vw_subF Vw.row Tx.len (Nat.zero_le _) hkl hsh.2)) | exact Src.flatv Tx.len Tx.one (Vw.pick 2 rfl (vw_subF Vw.row Tx.len (Nat.zero_le _) hkl hsh.2)) | exact Src.flatv Tx.len Tx.one (Vw.pick 3 rfl (vw_subF Vw.row Tx.len (Nat.zero_le _) hkl hsh.2)) | exact Src.flatv Tx.len Tx.one (Vw.pick 4 rfl (vw_subF Vw.row Tx.len (Nat.zero_le _) hkl hsh.2)) | exact Src.flatv Tx.len Tx.one (Vw.pick 5 rfl (vw_subF Vw.row Tx.len (Nat.zero_le _) hkl hsh.2)) | exact Src.flatv Tx.len Tx.one (Vw.pick 6 rfl (vw_subF Vw.row Tx.len (Nat.zero_le _) hkl hsh.2)) | exact Src.flatv Tx.len Tx.one (Vw.pick 7 rfl (vw_subF Vw.row Tx.len (Nat.zero_le _) hkl hsh.2)) | exact Src.flatv Tx.len Tx.one (Vw.pick 8 rfl (vw_subF Vw.row Tx.len (Nat.zero_le _) hkl hsh.2)) | exact Src.flatv Tx.len Tx.one (Vw.pick 0 rfl (vw_subF Vw.row Tx.len hkl (Nat.le_refl _) hsh.2)) | exact Src.flatv Tx.len Tx.one (Vw.pick 1 rfl (vw_subF Vw.row Tx.len hkl (Nat.le_refl _) hsh.2)) | exact Src.flatv Tx.len Tx.one (Vw.pick 2 rfl (vw_subF Vw.row Tx.len hkl (Nat.le_refl _) hsh.2)) | exact Src.flatv Tx.len Tx.one (Vw.pick 3 rfl (vw_subF Vw.row Tx.len hkl (Nat.le_refl _) hsh.2)) | exact Src.flatv Tx.len Tx.one (Vw.pick 4 rfl (vw_subF Vw.row Tx.len hkl (Nat.le_refl _) hsh.2)) | exact Src.flatv Tx.len Tx.one (Vw.pick 5 rfl (vw_subF Vw.row Tx.len hkl (Nat.le_refl _) hsh.2)) | exact Src.flatv Tx.len Tx.one (Vw.pick 6 rfl (vw_subF Vw.row Tx.len hkl (Nat.le_refl _) hsh.2)) | exact Src.flatv Tx.len Tx.one (Vw.pick 7 rfl (vw_subF Vw.row Tx.len hkl (Nat.le_refl _) hsh.2)) | exact Src.flatv Tx.len Tx.one (Vw.pick 8 rfl (vw_subF Vw.row Tx.len hkl (Nat.le_refl _) hsh.2)) | exact Src.flatv Tx.len Tx.one (Vw.pick 0 rfl Vw.row) | exact Src.flatv Tx.len Tx.one (Vw.pick 1 rfl Vw.row) | exact Src.flatv Tx.len Tx.one (Vw.pick 2 rfl Vw.row) | exact Src.flatv Tx.len Tx.one (Vw.pick 3 rfl Vw.row) | exact Src.flatv Tx.len Tx.one (Vw.pick 4 rfl Vw.row) | exact Src.flatv Tx.len Tx.one (Vw.pick 5 rfl Vw.row) | exact Src.flatv Tx.len Tx.one (Vw.pick 6 rfl Vw.row) | exact Src.flatv Tx.len Tx.one (Vw.pick 7 rfl Vw.row) | exact Src.flatv Tx.len Tx.one (Vw.pick 8 rfl Vw.row)) (by simp only [List.length_take, List.length_drop, List.length_nil]; omega) (by simp only [List.length_take, List.length_drop, List.length_nil]; omega)) rfl ?_
                rintro _ _ ⟨p67, c67, rfl, hn67, rfl⟩
                simp only [List.set_cons_zero, List.set_cons_succ, List.nil_append]
                rw [show (nm.drop 0).take (k - 0) = nm.take k from by simp]
                refine any_eff' (i := 10) (by kernel_rfl) rfl rfl (eff_lit sl24 rfl (sbld (cs := txs [wd]) [(.string ByteArray.empty)] sl24 (by decide) (by kernel_rfl) rfl) rfl (by decide)) rfl ?_
                rintro _ _ ⟨b73, rfl, rfl⟩
                refine any_eff' (i := 11) (by kernel_rfl) rfl rfl (eff_appF (f := Tx.cs) (l2 := [wd]) 1 sl24 (.inl ⟨9, Tryd.underlying24⟩) rfl rfl rfl (by first | exact Src.flatv Tx.len Tx.one (Vw.pick 0 rfl (vw_subF Vw.row Tx.len (Nat.zero_le _) hkl hsh.2)) | exact Src.flatv Tx.len Tx.one (Vw.pick 1 rfl (vw_subF Vw.row Tx.len (Nat.zero_le _) hkl hsh.2)) | exact Src.flatv Tx.len Tx.one (Vw.pick 2 rfl (vw_subF Vw.row Tx.len (Nat.zero_le _) hkl hsh.2)) | exact Src.flatv Tx.len Tx.one (Vw.pick 3 rfl (vw_subF Vw.row Tx.len (Nat.zero_le _) hkl hsh.2)) | exact Src.flatv Tx.len Tx.one (Vw.pick 4 rfl (vw_subF Vw.row Tx.len (Nat.zero_le _) hkl hsh.2)) | exact Src.flatv Tx.len Tx.one (Vw.pick 5 rfl (vw_subF Vw.row Tx.len (Nat.zero_le _) hkl hsh.2)) | exact Src.flatv Tx.len Tx.one (Vw.pick 6 rfl (vw_subF Vw.row Tx.len (Nat.zero_le _) hkl hsh.2)) | exact Src.flatv Tx.len Tx.one (Vw.pick 7 rfl (vw_subF Vw.row Tx.len (Nat.zero_le _) hkl hsh.2)) | exact Src.flatv Tx.len Tx.one (Vw.pick 8 rfl (vw_subF Vw.row Tx.len (Nat.zero_le _) hkl hsh.2)) | exact Src.flatv Tx.len Tx.one (Vw.pick 0 rfl (vw_subF Vw.row Tx.len hkl (Nat.le_refl _) hsh.2)) | exact Src.flatv Tx.len Tx.one (Vw.pick 1 rfl (vw_subF Vw.row Tx.len hkl (Nat.le_refl _) hsh.2)) | exact Src.flatv Tx.len Tx.one (Vw.pick 2 rfl (vw_subF Vw.row Tx.len hkl (Nat.le_refl _) hsh.2)) | exact Src.flatv Tx.len Tx.one (Vw.pick 3 rfl (vw_subF Vw.row Tx.len hkl (Nat.le_refl _) hsh.2)) | exact Src.flatv Tx.len Tx.one (Vw.pick 4 rfl (vw_subF Vw.row Tx.len hkl (Nat.le_refl _) hsh.2)) | exact Src.flatv Tx.len Tx.one (Vw.pick 5 rfl (vw_subF Vw.row Tx.len hkl (Nat.le_refl _) hsh.2)) | exact Src.flatv Tx.len Tx.one (Vw.pick 6 rfl (vw_subF Vw.row Tx.len hkl (Nat.le_refl _) hsh.2)) | exact Src.flatv Tx.len Tx.one (Vw.pick 7 rfl (vw_subF Vw.row Tx.len hkl (Nat.le_refl _) hsh.2)) | exact Src.flatv Tx.len Tx.one (Vw.pick 8 rfl (vw_subF Vw.row Tx.len hkl (Nat.le_refl _) hsh.2)) | exact Src.flatv Tx.len Tx.one (Vw.pick 0 rfl Vw.row) | exact Src.flatv Tx.len Tx.one (Vw.pick 1 rfl Vw.row) | exact Src.flatv Tx.len Tx.one (Vw.pick 2 rfl Vw.row) | exact Src.flatv Tx.len Tx.one (Vw.pick 3 rfl Vw.row) | exact Src.flatv Tx.len Tx.one (Vw.pick 4 rfl Vw.row) | exact Src.flatv Tx.len Tx.one (Vw.pick 5 rfl Vw.row) | exact Src.flatv Tx.len Tx.one (Vw.pick 6 rfl Vw.row) | exact Src.flatv Tx.len Tx.one (Vw.pick 7 rfl Vw.row) | exact Src.flatv Tx.len Tx.one (Vw.pick 8 rfl Vw.row)) (by simp only [List.length_take, List.length_cons, List.length_nil]; omega) (by simp only [List.length_take, List.length_cons, List.length_nil]; omega)) rfl ?_
                rintro _ _ ⟨p74, c74, rfl, hn74, rfl⟩
                simp only [List.set_cons_zero, List.set_cons_succ]
                refine any_eff' (i := 15) (by kernel_rfl) rfl rfl (eff_appF (f := Tx.cs) (l2 := (nm.drop k).take (nm.length - k)) 1 sl24 (.inl ⟨9, Tryd.underlying24⟩) rfl rfl rfl (by first | exact Src.flatv Tx.len Tx.one (Vw.pick 0 rfl (vw_subF Vw.row Tx.len (Nat.zero_le _) hkl hsh.2)) | exact Src.flatv Tx.len Tx.one (Vw.pick 1 rfl (vw_subF Vw.row Tx.len (Nat.zero_le _) hkl hsh.2)) | exact Src.flatv Tx.len Tx.one (Vw.pick 2 rfl (vw_subF Vw.row Tx.len (Nat.zero_le _) hkl hsh.2)) | exact Src.flatv Tx.len Tx.one (Vw.pick 3 rfl (vw_subF Vw.row Tx.len (Nat.zero_le _) hkl hsh.2)) | exact Src.flatv Tx.len Tx.one (Vw.pick 4 rfl (vw_subF Vw.row Tx.len (Nat.zero_le _) hkl hsh.2)) | exact Src.flatv Tx.len Tx.one (Vw.pick 5 rfl (vw_subF Vw.row Tx.len (Nat.zero_le _) hkl hsh.2)) | exact Src.flatv Tx.len Tx.one (Vw.pick 6 rfl (vw_subF Vw.row Tx.len (Nat.zero_le _) hkl hsh.2)) | exact Src.flatv Tx.len Tx.one (Vw.pick 7 rfl (vw_subF Vw.row Tx.len (Nat.zero_le _) hkl hsh.2)) | exact Src.flatv Tx.len Tx.one (Vw.pick 8 rfl (vw_subF Vw.row Tx.len (Nat.zero_le _) hkl hsh.2)) | exact Src.flatv Tx.len Tx.one (Vw.pick 0 rfl (vw_subF Vw.row Tx.len hkl (Nat.le_refl _) hsh.2)) | exact Src.flatv Tx.len Tx.one (Vw.pick 1 rfl (vw_subF Vw.row Tx.len hkl (Nat.le_refl _) hsh.2)) | exact Src.flatv Tx.len Tx.one (Vw.pick 2 rfl (vw_subF Vw.row Tx.len hkl (Nat.le_refl _) hsh.2)) | exact Src.flatv Tx.len Tx.one (Vw.pick 3 rfl (vw_subF Vw.row Tx.len hkl (Nat.le_refl _) hsh.2)) | exact Src.flatv Tx.len Tx.one (Vw.pick 4 rfl (vw_subF Vw.row Tx.len hkl (Nat.le_refl _) hsh.2)) | exact Src.flatv Tx.len Tx.one (Vw.pick 5 rfl (vw_subF Vw.row Tx.len hkl (Nat.le_refl _) hsh.2)) | exact Src.flatv Tx.len Tx.one (Vw.pick 6 rfl (vw_subF Vw.row Tx.len hkl (Nat.le_refl _) hsh.2)) | exact Src.flatv Tx.len Tx.one (Vw.pick 7 rfl (vw_subF Vw.row Tx.len hkl (Nat.le_refl _) hsh.2)) | exact Src.flatv Tx.len Tx.one (Vw.pick 8 rfl (vw_subF Vw.row Tx.len hkl (Nat.le_refl _) hsh.2)) | exact Src.flatv Tx.len Tx.one (Vw.pick 0 rfl Vw.row) | exact Src.flatv Tx.len Tx.one (Vw.pick 1 rfl Vw.row) | exact Src.flatv Tx.len Tx.one (Vw.pick 2 rfl Vw.row) | exact Src.flatv Tx.len Tx.one (Vw.pick 3 rfl Vw.row) | exact Src.flatv Tx.len Tx.one (Vw.pick 4 rfl Vw.row) | exact Src.flatv Tx.len Tx.one (Vw.pick 5 rfl Vw.row) | exact Src.flatv Tx.len Tx.one (Vw.pick 6 rfl Vw.row) | exact Src.flatv Tx.len Tx.one (Vw.pick 7 rfl Vw.row) | exact Src.flatv Tx.len Tx.one (Vw.pick 8 rfl Vw.row)) (by simp only [List.length_append, List.length_take, List.length_drop, List.length_cons, List.length_nil]; omega) (by simp only [List.length_append, List.length_take, List.length_drop, List.length_cons, List.length_nil]; omega)) rfl ?_
                rintro _ _ ⟨p78, c78, rfl, hn78, rfl⟩
                simp only [List.set_cons_zero, List.set_cons_succ]
                rw [show (nm.drop k).take (nm.length - k) = nm.drop k from List.take_of_length_le (by simp)]
                refine any_unlock (m' := 17) (L' := []) (by kernel_rfl) unlock ?_
                simp only [List.cons_append, List.nil_append, List.append_nil]
                refine any_ro' (i := 16) (by kernel_rfl) rfl rfl (ro_assign rfl) rfl (fun _ _ _ h => h) ?_
                refine any_doneH (by kernel_rfl) ?_
                refine Then_normal ?_
                refine over_cut (kept ⟨wd, p78, c78, ⟨hwl, hwr⟩, rfl, rfl⟩ ?_ ?_ ?_)
                · exact (by repeat (first | exact Has.nil _ | refine Has.cons rfl ?_))
                · exact (by repeat (first | exact Has.nil _ | refine Has.cons rfl ?_))
                · exact (SubH.cons 2 rfl (SubH.cons 2 rfl (SubH.cons 2 rfl (SubH.nil _))))
              · refine at_eff' rfl rfl (eff_lit sl24 rfl (sbld (cs := txs [wd]) [(.string ByteArray.empty)] sl24 (by decide) (by kernel_rfl) rfl) rfl (by decide)) rfl ?_
                rintro _ _ ⟨b73, rfl, rfl⟩
                refine any_eff' (i := 4) (by kernel_rfl) rfl rfl (eff_appF (f := Tx.cs) (l := []) (l2 := (nm.drop 0).take (k - 0)) 1 sl24 (.inl ⟨9, Tryd.underlying24⟩) rfl rfl rfl (by first | exact Src.flatv Tx.len Tx.one (Vw.pick 0 rfl (vw_subF Vw.row Tx.len (Nat.zero_le _) hkl hsh.2)) | exact Src.flatv Tx.len Tx.one (Vw.pick 1 rfl (vw_subF Vw.row Tx.len (Nat.zero_le _) hkl hsh.2)) | exact Src.flatv Tx.len Tx.one (Vw.pick 2 rfl (vw_subF Vw.row Tx.len (Nat.zero_le _) hkl hsh.2)) | exact Src.flatv Tx.len Tx.one (Vw.pick 3 rfl (vw_subF Vw.row Tx.len (Nat.zero_le _) hkl hsh.2)) | exact Src.flatv Tx.len Tx.one (Vw.pick 4 rfl (vw_subF Vw.row Tx.len (Nat.zero_le _) hkl hsh.2)) | exact Src.flatv Tx.len Tx.one (Vw.pick 5 rfl (vw_subF Vw.row Tx.len (Nat.zero_le _) hkl hsh.2)) | exact Src.flatv Tx.len Tx.one (Vw.pick 6 rfl (vw_subF Vw.row Tx.len (Nat.zero_le _) hkl hsh.2)) | exact Src.flatv Tx.len Tx.one (Vw.pick 7 rfl (vw_subF Vw.row Tx.len (Nat.zero_le _) hkl hsh.2)) | exact Src.flatv Tx.len Tx.one (Vw.pick 8 rfl (vw_subF Vw.row Tx.len (Nat.zero_le _) hkl hsh.2)) | exact Src.flatv Tx.len Tx.one (Vw.pick 0 rfl (vw_subF Vw.row Tx.len hkl (Nat.le_refl _) hsh.2)) | exact Src.flatv Tx.len Tx.one (Vw.pick 1 rfl (vw_subF Vw.row Tx.len hkl (Nat.le_refl _) hsh.2)) | exact Src.flatv Tx.len Tx.one (Vw.pick 2 rfl (vw_subF Vw.row Tx.len hkl (Nat.le_refl _) hsh.2)) | exact Src.flatv Tx.len Tx.one (Vw.pick 3 rfl (vw_subF Vw.row Tx.len hkl (Nat.le_refl _) hsh.2)) | exact Src.flatv Tx.len Tx.one (Vw.pick 4 rfl (vw_subF Vw.row Tx.len hkl (Nat.le_refl _) hsh.2)) | exact Src.flatv Tx.len Tx.one (Vw.pick 5 rfl (vw_subF Vw.row Tx.len hkl (Nat.le_refl _) hsh.2)) | exact Src.flatv Tx.len Tx.one (Vw.pick 6 rfl (vw_subF Vw.row Tx.len hkl (Nat.le_refl _) hsh.2)) | exact Src.flatv Tx.len Tx.one (Vw.pick 7 rfl (vw_subF Vw.row Tx.len hkl (Nat.le_refl _) hsh.2)) | exact Src.flatv Tx.len Tx.one (Vw.pick 8 rfl (vw_subF Vw.row Tx.len hkl (Nat.le_refl _) hsh.2)) | exact Src.flatv Tx.len Tx.one (Vw.pick 0 rfl Vw.row) | exact Src.flatv Tx.len Tx.one (Vw.pick 1 rfl Vw.row) | exact Src.flatv Tx.len Tx.one (Vw.pick 2 rfl Vw.row) | exact Src.flatv Tx.len Tx.one (Vw.pick 3 rfl Vw.row) | exact Src.flatv Tx.len Tx.one (Vw.pick 4 rfl Vw.row) | exact Src.flatv Tx.len Tx.one (Vw.pick 5 rfl Vw.row) | exact Src.flatv Tx.len Tx.one (Vw.pick 6 rfl Vw.row) | exact Src.flatv Tx.len Tx.one (Vw.pick 7 rfl Vw.row) | exact Src.flatv Tx.len Tx.one (Vw.pick 8 rfl Vw.row)) (by simp only [List.length_take, List.length_drop, List.length_nil]; omega) (by simp only [List.length_take, List.length_drop, List.length_nil]; omega)) rfl ?_
                rintro _ _ ⟨p67, c67, rfl, hn67, rfl⟩
                simp only [List.set_cons_zero, List.set_cons_succ, List.nil_append]
                rw [show (nm.drop 0).take (k - 0) = nm.take k from by simp]
                refine any_eff' (i := 11) (by kernel_rfl) rfl rfl (eff_appF (f := Tx.cs) (l2 := [wd]) 1 sl24 (.inl ⟨9, Tryd.underlying24⟩) rfl rfl rfl (by first | exact Src.flatv Tx.len Tx.one (Vw.pick 0 rfl (vw_subF Vw.row Tx.len (Nat.zero_le _) hkl hsh.2)) | exact Src.flatv Tx.len Tx.one (Vw.pick 1 rfl (vw_subF Vw.row Tx.len (Nat.zero_le _) hkl hsh.2)) | exact Src.flatv Tx.len Tx.one (Vw.pick 2 rfl (vw_subF Vw.row Tx.len (Nat.zero_le _) hkl hsh.2)) | exact Src.flatv Tx.len Tx.one (Vw.pick 3 rfl (vw_subF Vw.row Tx.len (Nat.zero_le _) hkl hsh.2)) | exact Src.flatv Tx.len Tx.one (Vw.pick 4 rfl (vw_subF Vw.row Tx.len (Nat.zero_le _) hkl hsh.2)) | exact Src.flatv Tx.len Tx.one (Vw.pick 5 rfl (vw_subF Vw.row Tx.len (Nat.zero_le _) hkl hsh.2)) | exact Src.flatv Tx.len Tx.one (Vw.pick 6 rfl (vw_subF Vw.row Tx.len (Nat.zero_le _) hkl hsh.2)) | exact Src.flatv Tx.len Tx.one (Vw.pick 7 rfl (vw_subF Vw.row Tx.len (Nat.zero_le _) hkl hsh.2)) | exact Src.flatv Tx.len Tx.one (Vw.pick 8 rfl (vw_subF Vw.row Tx.len (Nat.zero_le _) hkl hsh.2)) | exact Src.flatv Tx.len Tx.one (Vw.pick 0 rfl (vw_subF Vw.row Tx.len hkl (Nat.le_refl _) hsh.2)) | exact Src.flatv Tx.len Tx.one (Vw.pick 1 rfl (vw_subF Vw.row Tx.len hkl (Nat.le_refl _) hsh.2)) | exact Src.flatv Tx.len Tx.one (Vw.pick 2 rfl (vw_subF Vw.row Tx.len hkl (Nat.le_refl _) hsh.2)) | exact Src.flatv Tx.len Tx.one (Vw.pick 3 rfl (vw_subF Vw.row Tx.len hkl (Nat.le_refl _) hsh.2)) | exact Src.flatv Tx.len Tx.one (Vw.pick 4 rfl (vw_subF Vw.row Tx.len hkl (Nat.le_refl _) hsh.2)) | exact Src.flatv Tx.len Tx.one (Vw.pick 5 rfl (vw_subF Vw.row Tx.len hkl (Nat.le_refl _) hsh.2)) | exact Src.flatv Tx.len Tx.one (Vw.pick 6 rfl (vw_subF Vw.row Tx.len hkl (Nat.le_refl _) hsh.2)) | exact Src.flatv Tx.len Tx.one (Vw.pick 7 rfl (vw_subF Vw.row Tx.len hkl (Nat.le_refl _) hsh.2)) | exact Src.flatv Tx.len Tx.one (Vw.pick 8 rfl (vw_subF Vw.row Tx.len hkl (Nat.le_refl _) hsh.2)) | exact Src.flatv Tx.len Tx.one (Vw.pick 0 rfl Vw.row) | exact Src.flatv Tx.len Tx.one (Vw.pick 1 rfl Vw.row) | exact Src.flatv Tx.len Tx.one (Vw.pick 2 rfl Vw.row) | exact Src.flatv Tx.len Tx.one (Vw.pick 3 rfl Vw.row) | exact Src.flatv Tx.len Tx.one (Vw.pick 4 rfl Vw.row) | exact Src.flatv Tx.len Tx.one (Vw.pick 5 rfl Vw.row) | exact Src.flatv Tx.len Tx.one (Vw.pick 6 rfl Vw.row) | exact Src.flatv Tx.len Tx.one (Vw.pick 7 rfl Vw.row) | exact Src.flatv Tx.len Tx.one (Vw.pick 8 rfl Vw.row)) (by simp only [List.length_take, List.length_cons, List.length_nil]; omega) (by simp only [List.length_take, List.length_cons, List.length_nil]; omega)) rfl ?_
                rintro _ _ ⟨p74, c74, rfl, hn74, rfl⟩
                simp only [List.set_cons_zero, List.set_cons_succ]
                refine any_eff' (i := 15) (by kernel_rfl) rfl rfl (eff_appF (f := Tx.cs) (l2 := (nm.drop k).take (nm.length - k)) 1 sl24 (.inl ⟨9, Tryd.underlying24⟩) rfl rfl rfl (by first | exact Src.flatv Tx.len Tx.one (Vw.pick 0 rfl (vw_subF Vw.row Tx.len (Nat.zero_le _) hkl hsh.2)) | exact Src.flatv Tx.len Tx.one (Vw.pick 1 rfl (vw_subF Vw.row Tx.len (Nat.zero_le _) hkl hsh.2)) | exact Src.flatv Tx.len Tx.one (Vw.pick 2 rfl (vw_subF Vw.row Tx.len (Nat.zero_le _) hkl hsh.2)) | exact Src.flatv Tx.len Tx.one (Vw.pick 3 rfl (vw_subF Vw.row Tx.len (Nat.zero_le _) hkl hsh.2)) | exact Src.flatv Tx.len Tx.one (Vw.pick 4 rfl (vw_subF Vw.row Tx.len (Nat.zero_le _) hkl hsh.2)) | exact Src.flatv Tx.len Tx.one (Vw.pick 5 rfl (vw_subF Vw.row Tx.len (Nat.zero_le _) hkl hsh.2)) | exact Src.flatv Tx.len Tx.one (Vw.pick 6 rfl (vw_subF Vw.row Tx.len (Nat.zero_le _) hkl hsh.2)) | exact Src.flatv Tx.len Tx.one (Vw.pick 7 rfl (vw_subF Vw.row Tx.len (Nat.zero_le _) hkl hsh.2)) | exact Src.flatv Tx.len Tx.one (Vw.pick 8 rfl (vw_subF Vw.row Tx.len (Nat.zero_le _) hkl hsh.2)) | exact Src.flatv Tx.len Tx.one (Vw.pick 0 rfl (vw_subF Vw.row Tx.len hkl (Nat.le_refl _) hsh.2)) | exact Src.flatv Tx.len Tx.one (Vw.pick 1 rfl (vw_subF Vw.row Tx.len hkl (Nat.le_refl _) hsh.2)) | exact Src.flatv Tx.len Tx.one (Vw.pick 2 rfl (vw_subF Vw.row Tx.len hkl (Nat.le_refl _) hsh.2)) | exact Src.flatv Tx.len Tx.one (Vw.pick 3 rfl (vw_subF Vw.row Tx.len hkl (Nat.le_refl _) hsh.2)) | exact Src.flatv Tx.len Tx.one (Vw.pick 4 rfl (vw_subF Vw.row Tx.len hkl (Nat.le_refl _) hsh.2)) | exact Src.flatv Tx.len Tx.one (Vw.pick 5 rfl (vw_subF Vw.row Tx.len hkl (Nat.le_refl _) hsh.2)) | exact Src.flatv Tx.len Tx.one (Vw.pick 6 rfl (vw_subF Vw.row Tx.len hkl (Nat.le_refl _) hsh.2)) | exact Src.flatv Tx.len Tx.one (Vw.pick 7 rfl (vw_subF Vw.row Tx.len hkl (Nat.le_refl _) hsh.2)) | exact Src.flatv Tx.len Tx.one (Vw.pick 8 rfl (vw_subF Vw.row Tx.len hkl (Nat.le_refl _) hsh.2)) | exact Src.flatv Tx.len Tx.one (Vw.pick 0 rfl Vw.row) | exact Src.flatv Tx.len Tx.one (Vw.pick 1 rfl Vw.row) | exact Src.flatv Tx.len Tx.one (Vw.pick 2 rfl Vw.row) | exact Src.flatv Tx.len Tx.one (Vw.pick 3 rfl Vw.row) | exact Src.flatv Tx.len Tx.one (Vw.pick 4 rfl Vw.row) | exact Src.flatv Tx.len Tx.one (Vw.pick 5 rfl Vw.row) | exact Src.flatv Tx.len Tx.one (Vw.pick 6 rfl Vw.row) | exact Src.flatv Tx.len Tx.one (Vw.pick 7 rfl Vw.row) | exact Src.flatv Tx.len Tx.one (Vw.pick 8 rfl Vw.row)) (by simp only [List.length_append, List.length_take, List.length_drop, List.length_cons, List.length_nil]; omega) (by simp only [List.length_append, List.length_take, List.length_drop, List.length_cons, List.length_nil]; omega)) rfl ?_
                rintro _ _ ⟨p78, c78, rfl, hn78, rfl⟩
                simp only [List.set_cons_zero, List.set_cons_succ]
                rw [show (nm.drop k).take (nm.length - k) = nm.drop k from List.take_of_length_le (by simp)]
                refine any_unlock (m' := 17) (L' := []) (by kernel_rfl) unlock ?_
                simp only [List.cons_append, List.nil_append, List.append_nil]
                refine any_ro' (i := 16) (by kernel_rfl) rfl rfl (ro_assign rfl) rfl (fun _ _ _ h => h) ?_
                refine any_doneH (by kernel_rfl) ?_
                refine Then_normal ?_
                refine over_cut (kept ⟨wd, p78, c78, ⟨hwl, hwr⟩, rfl, rfl⟩ ?_ ?_ ?_)
                · exact (by repeat (first | exact Has.nil _ | refine Has.cons rfl ?_))
                · exact (by repeat (first | exact Has.nil _ | refine Has.cons rfl ?_))
                · exact (SubH.cons 2 rfl (SubH.cons 2 rfl (SubH.cons 2 rfl (SubH.nil _))))
          · refine at_eff' rfl rfl (eff_lit sl24 rfl (sbld (cs := txs dws) [(.string ByteArray.empty), (.string ByteArray.empty), (.string ByteArray.empty), (.string ByteArray.empty)] sl24 (by decide) (by kernel_rfl) rfl) rfl (by decide)) rfl ?_
            rintro _ _ ⟨b68, rfl, rfl⟩
            refine any_lock 0 rfl ?_
            simp only [List.eraseIdx_cons_zero, List.eraseIdx_cons_succ]
            refine any_ro' (i := 8) (by kernel_rfl) rfl rfl (ro_indexSlice sl24 rfl rfl rfl (by omega)) rfl (fun _ _ _ h => h) ?_
            refine any_ro' (i := 9) (by kernel_rfl) rfl rfl (ro_load sc9 rfl (Rd.pick 0 rfl (Rd.elem (j := 0) (RdN.row) Tx.len hws rfl))) rfl (fun _ _ _ h => h) ?_
            refine any_two (i := 0) (j := 10) (by kernel_rfl) ?_ ?_
            · refine at_eff' rfl rfl (eff_lit sl24 rfl (sbld (cs := []) [] sl24 (by decide) (by kernel_rfl) rfl) rfl (by decide)) rfl ?_
              rintro _ _ ⟨b63, rfl, rfl⟩
              refine any_two (i := 4) (j := 10) (by kernel_rfl) ?_ ?_
              · refine at_eff' rfl rfl (eff_appF (f := Tx.cs) (l := []) (l2 := (nm.drop 0).take (k - 0)) 0 sl24 (.inl ⟨9, Tryd.underlying24⟩) rfl rfl rfl (by first | exact Src.flatv Tx.len Tx.one (Vw.pick 0 rfl (vw_subF Vw.row Tx.len (Nat.zero_le _) hkl hsh.2)) | exact Src.flatv Tx.len Tx.one (Vw.pick 1 rfl (vw_subF Vw.row Tx.len (Nat.zero_le _) hkl hsh.2)) | exact Src.flatv Tx.len Tx.one (Vw.pick 2 rfl (vw_subF Vw.row Tx.len (Nat.zero_le _) hkl hsh.2)) | exact Src.flatv Tx.len Tx.one (Vw.pick 3 rfl (vw_subF Vw.row Tx.len (Nat.zero_le _) hkl hsh.2)) | exact Src.flatv Tx.len Tx.one (Vw.pick 4 rfl (vw_subF Vw.row Tx.len (Nat.zero_le _) hkl hsh.2)) | exact Src.flatv Tx.len Tx.one (Vw.pick 5 rfl (vw_subF Vw.row Tx.len (Nat.zero_le _) hkl hsh.2)) | exact Src.flatv Tx.len Tx.one (Vw.pick 6 rfl (vw_subF Vw.row Tx.len (Nat.zero_le _) hkl hsh.2)) | exact Src.flatv Tx.len Tx.one (Vw.pick 7 rfl (vw_subF Vw.row Tx.len (Nat.zero_le _) hkl hsh.2)) | exact Src.flatv Tx.len Tx.one (Vw.pick 8 rfl (vw_subF Vw.row Tx.len (Nat.zero_le _) hkl hsh.2)) | exact Src.flatv Tx.len Tx.one (Vw.pick 0 rfl (vw_subF Vw.row Tx.len hkl (Nat.le_refl _) hsh.2)) | exact Src.flatv Tx.len Tx.one (Vw.pick 1 rfl (vw_subF Vw.row Tx.len hkl (Nat.le_refl _) hsh.2)) | exact Src.flatv Tx.len Tx.one (Vw.pick 2 rfl (vw_subF Vw.row Tx.len hkl (Nat.le_refl _) hsh.2)) | exact Src.flatv Tx.len Tx.one (Vw.pick 3 rfl (vw_subF Vw.row Tx.len hkl (Nat.le_refl _) hsh.2)) | exact Src.flatv Tx.len Tx.one (Vw.pick 4 rfl (vw_subF Vw.row Tx.len hkl (Nat.le_refl _) hsh.2)) | exact Src.flatv Tx.len Tx.one (Vw.pick 5 rfl (vw_subF Vw.row Tx.len hkl (Nat.le_refl _) hsh.2)) | exact Src.flatv Tx.len Tx.one (Vw.pick 6 rfl (vw_subF Vw.row Tx.len hkl (Nat.le_refl _) hsh.2)) | exact Src.flatv Tx.len Tx.one (Vw.pick 7 rfl (vw_subF Vw.row Tx.len hkl (Nat.le_refl _) hsh.2)) | exact Src.flatv Tx.len Tx.one (Vw.pick 8 rfl (vw_subF Vw.row Tx.len hkl (Nat.le_refl _) hsh.2)) | exact Src.flatv Tx.len Tx.one (Vw.pick 0 rfl Vw.row) | exact Src.flatv Tx.len Tx.one (Vw.pick 1 rfl Vw.row) | exact Src.flatv Tx.len Tx.one (Vw.pick 2 rfl Vw.row) | exact Src.flatv Tx.len Tx.one (Vw.pick 3 rfl Vw.row) | exact Src.flatv Tx.len Tx.one (Vw.pick 4 rfl Vw.row) | exact Src.flatv Tx.len Tx.one (Vw.pick 5 rfl Vw.row) | exact Src.flatv Tx.len Tx.one (Vw.pick 6 rfl Vw.row) | exact Src.flatv Tx.len Tx.one (Vw.pick 7 rfl Vw.row) | exact Src.flatv Tx.len Tx.one (Vw.pick 8 rfl Vw.row)) (by simp only [List.length_take, List.length_drop, List.length_nil]; omega) (by simp only [List.length_take, List.length_drop, List.length_nil]; omega)) rfl ?_
                rintro _ _ ⟨p67, c67, rfl, hn67, rfl⟩
                simp only [List.set_cons_zero, List.set_cons_succ, List.nil_append]
                rw [show (nm.drop 0).take (k - 0) = nm.take k from by simp]
                refine any_eff' (i := 10) (by kernel_rfl) rfl rfl (eff_lit sl24 rfl (sbld (cs := txs [wd]) [(.string ByteArray.empty)] sl24 (by decide) (by kernel_rfl) rfl) rfl (by decide)) rfl ?_
                rintro _ _ ⟨b73, rfl, rfl⟩
                refine any_eff' (i := 11) (by kernel_rfl) rfl rfl (eff_appF (f := Tx.cs) (l2 := [wd]) 1 sl24 (.inl ⟨9, Tryd.underlying24⟩) rfl rfl rfl (by first | exact Src.flatv Tx.len Tx.one (Vw.pick 0 rfl (vw_subF Vw.row Tx.len (Nat.zero_le _) hkl hsh.2)) | exact Src.flatv Tx.len Tx.one (Vw.pick 1 rfl (vw_subF Vw.row Tx.len (Nat.zero_le _) hkl hsh.2)) | exact Src.flatv Tx.len Tx.one (Vw.pick 2 rfl (vw_subF Vw.row Tx.len (Nat.zero_le _) hkl hsh.2)) | exact Src.flatv Tx.len Tx.one (Vw.pick 3 rfl (vw_subF Vw.row Tx.len (Nat.zero_le _) hkl hsh.2)) | exact Src.flatv Tx.len Tx.one (Vw.pick 4 rfl (vw_subF Vw.row Tx.len (Nat.zero_le _) hkl hsh.2)) | exact Src.flatv Tx.len Tx.one (Vw.pick 5 rfl (vw_subF Vw.row Tx.len (Nat.zero_le _) hkl hsh.2)) | exact Src.flatv Tx.len Tx.one (Vw.pick 6 rfl (vw_subF Vw.row Tx.len (Nat.zero_le _) hkl hsh.2)) | exact Src.flatv Tx.len Tx.one (Vw.pick 7 rfl (vw_subF Vw.row Tx.len (Nat.zero_le _) hkl hsh.2)) | exact Src.flatv Tx.len Tx.one (Vw.pick 8 rfl (vw_subF Vw.row Tx.len (Nat.zero_le _) hkl hsh.2)) | exact Src.flatv Tx.len Tx.one (Vw.pick 0 rfl (vw_subF Vw.row Tx.len hkl (Nat.le_refl _) hsh.2)) | exact Src.flatv Tx.len Tx.one (Vw.pick 1 rfl (vw_subF Vw.row Tx.len hkl (Nat.le_refl _) hsh.2)) | exact Src.flatv Tx.len Tx.one (Vw.pick 2 rfl (vw_subF Vw.row Tx.len hkl (Nat.le_refl _) hsh.2)) | exact Src.flatv Tx.len Tx.one (Vw.pick 3 rfl (vw_subF Vw.row Tx.len hkl (Nat.le_refl _) hsh.2)) | exact Src.flatv Tx.len Tx.one (Vw.pick 4 rfl (vw_subF Vw.row Tx.len hkl (Nat.le_refl _) hsh.2)) | exact Src.flatv Tx.len Tx.one (Vw.pick 5 rfl (vw_subF Vw.row Tx.len hkl (Nat.le_refl _) hsh.2)) | exact Src.flatv Tx.len Tx.one (Vw.pick 6 rfl (vw_subF Vw.row Tx.len hkl (Nat.le_refl _) hsh.2)) | exact Src.flatv Tx.len Tx.one (Vw.pick 7 rfl (vw_subF Vw.row Tx.len hkl (Nat.le_refl _) hsh.2)) | exact Src.flatv Tx.len Tx.one (Vw.pick 8 rfl (vw_subF Vw.row Tx.len hkl (Nat.le_refl _) hsh.2)) | exact Src.flatv Tx.len Tx.one (Vw.pick 0 rfl Vw.row) | exact Src.flatv Tx.len Tx.one (Vw.pick 1 rfl Vw.row) | exact Src.flatv Tx.len Tx.one (Vw.pick 2 rfl Vw.row) | exact Src.flatv Tx.len Tx.one (Vw.pick 3 rfl Vw.row) | exact Src.flatv Tx.len Tx.one (Vw.pick 4 rfl Vw.row) | exact Src.flatv Tx.len Tx.one (Vw.pick 5 rfl Vw.row) | exact Src.flatv Tx.len Tx.one (Vw.pick 6 rfl Vw.row) | exact Src.flatv Tx.len Tx.one (Vw.pick 7 rfl Vw.row) | exact Src.flatv Tx.len Tx.one (Vw.pick 8 rfl Vw.row)) (by simp only [List.length_take, List.length_cons, List.length_nil]; omega) (by simp only [List.length_take, List.length_cons, List.length_nil]; omega)) rfl ?_
                rintro _ _ ⟨p74, c74, rfl, hn74, rfl⟩
                simp only [List.set_cons_zero, List.set_cons_succ]
                refine any_eff' (i := 15) (by kernel_rfl) rfl rfl (eff_appF (f := Tx.cs) (l2 := (nm.drop k).take (nm.length - k)) 1 sl24 (.inl ⟨9, Tryd.underlying24⟩) rfl rfl rfl (by first | exact Src.flatv Tx.len Tx.one (Vw.pick 0 rfl (vw_subF Vw.row Tx.len (Nat.zero_le _) hkl hsh.2)) | exact Src.flatv Tx.len Tx.one (Vw.pick 1 rfl (vw_subF Vw.row Tx.len (Nat.zero_le _) hkl hsh.2)) | exact Src.flatv Tx.len Tx.one (Vw.pick 2 rfl (vw_subF Vw.row Tx.len (Nat.zero_le _) hkl hsh.2)) | exact Src.flatv Tx.len Tx.one (Vw.pick 3 rfl (vw_subF Vw.row Tx.len (Nat.zero_le _) hkl hsh.2)) | exact Src.flatv Tx.len Tx.one (Vw.pick 4 rfl (vw_subF Vw.row Tx.len (Nat.zero_le _) hkl hsh.2)) | exact Src.flatv Tx.len Tx.one (Vw.pick 5 rfl (vw_subF Vw.row Tx.len (Nat.zero_le _) hkl hsh.2)) | exact Src.flatv Tx.len Tx.one (Vw.pick 6 rfl (vw_subF Vw.row Tx.len (Nat.zero_le _) hkl hsh.2)) | exact Src.flatv Tx.len Tx.one (Vw.pick 7 rfl (vw_subF Vw.row Tx.len (Nat.zero_le _) hkl hsh.2)) | exact Src.flatv Tx.len Tx.one (Vw.pick 8 rfl (vw_subF Vw.row Tx.len (Nat.zero_le _) hkl hsh.2)) | exact Src.flatv Tx.len Tx.one (Vw.pick 0 rfl (vw_subF Vw.row Tx.len hkl (Nat.le_refl _) hsh.2)) | exact Src.flatv Tx.len Tx.one (Vw.pick 1 rfl (vw_subF Vw.row Tx.len hkl (Nat.le_refl _) hsh.2)) | exact Src.flatv Tx.len Tx.one (Vw.pick 2 rfl (vw_subF Vw.row Tx.len hkl (Nat.le_refl _) hsh.2)) | exact Src.flatv Tx.len Tx.one (Vw.pick 3 rfl (vw_subF Vw.row Tx.len hkl (Nat.le_refl _) hsh.2)) | exact Src.flatv Tx.len Tx.one (Vw.pick 4 rfl (vw_subF Vw.row Tx.len hkl (Nat.le_refl _) hsh.2)) | exact Src.flatv Tx.len Tx.one (Vw.pick 5 rfl (vw_subF Vw.row Tx.len hkl (Nat.le_refl _) hsh.2)) | exact Src.flatv Tx.len Tx.one (Vw.pick 6 rfl (vw_subF Vw.row Tx.len hkl (Nat.le_refl _) hsh.2)) | exact Src.flatv Tx.len Tx.one (Vw.pick 7 rfl (vw_subF Vw.row Tx.len hkl (Nat.le_refl _) hsh.2)) | exact Src.flatv Tx.len Tx.one (Vw.pick 8 rfl (vw_subF Vw.row Tx.len hkl (Nat.le_refl _) hsh.2)) | exact Src.flatv Tx.len Tx.one (Vw.pick 0 rfl Vw.row) | exact Src.flatv Tx.len Tx.one (Vw.pick 1 rfl Vw.row) | exact Src.flatv Tx.len Tx.one (Vw.pick 2 rfl Vw.row) | exact Src.flatv Tx.len Tx.one (Vw.pick 3 rfl Vw.row) | exact Src.flatv Tx.len Tx.one (Vw.pick 4 rfl Vw.row) | exact Src.flatv Tx.len Tx.one (Vw.pick 5 rfl Vw.row) | exact Src.flatv Tx.len Tx.one (Vw.pick 6 rfl Vw.row) | exact Src.flatv Tx.len Tx.one (Vw.pick 7 rfl Vw.row) | exact Src.flatv Tx.len Tx.one (Vw.pick 8 rfl Vw.row)) (by simp only [List.length_append, List.length_take, List.length_drop, List.length_cons, List.length_nil]; omega) (by simp only [List.length_append, List.length_take, List.length_drop, List.length_cons, List.length_nil]; omega)) rfl ?_
                rintro _ _ ⟨p78, c78, rfl, hn78, rfl⟩
                simp only [List.set_cons_zero, List.set_cons_succ]
                rw [show (nm.drop k).take (nm.length - k) = nm.drop k from List.take_of_length_le (by simp)]
                refine any_unlock (m' := 17) (L' := []) (by kernel_rfl) unlock ?_
                simp only [List.cons_append, List.nil_append, List.append_nil]
                refine any_ro' (i := 16) (by kernel_rfl) rfl rfl (ro_assign rfl) rfl (fun _ _ _ h => h) ?_
                refine any_doneH (by kernel_rfl) ?_
                refine Then_normal ?_
                refine over_cut (kept ⟨wd, p78, c78, ⟨hwl, hwr⟩, rfl, rfl⟩ ?_ ?_ ?_)
                · exact (by repeat (first | exact Has.nil _ | refine Has.cons rfl ?_))
                · exact (by repeat (first | exact Has.nil _ | refine Has.cons rfl ?_))
                · exact (SubH.cons 2 rfl (SubH.cons 2 rfl (SubH.cons 2 rfl (SubH.nil _))))
              · refine at_eff' rfl rfl (eff_lit sl24 rfl (sbld (cs := txs [wd]) [(.string ByteArray.empty)] sl24 (by decide) (by kernel_rfl) rfl) rfl (by decide)) rfl ?_
                rintro _ _ ⟨b73, rfl, rfl⟩
                refine any_eff' (i := 4) (by kernel_rfl) rfl rfl (eff_appF (f := Tx.cs) (l := []) (l2 := (nm.drop 0).take (k - 0)) 1 sl24 (.inl ⟨9, Tryd.underlying24⟩) rfl rfl rfl (by first | exact Src.flatv Tx.len Tx.one (Vw.pick 0 rfl (vw_subF Vw.row Tx.len (Nat.zero_le _) hkl hsh.2)) | exact Src.flatv Tx.len Tx.one (Vw.pick 1 rfl (vw_subF Vw.row Tx.len (Nat.zero_le _) hkl hsh.2)) | exact Src.flatv Tx.len Tx.one (Vw.pick 2 rfl (vw_subF Vw.row Tx.len (Nat.zero_le _) hkl hsh.2)) | exact Src.flatv Tx.len Tx.one (Vw.pick 3 rfl (vw_subF Vw.row Tx.len (Nat.zero_le _) hkl hsh.2)) | exact Src.flatv Tx.len Tx.one (Vw.pick 4 rfl (vw_subF Vw.row Tx.len (Nat.zero_le _) hkl hsh.2)) | exact Src.flatv Tx.len Tx.one (Vw.pick 5 rfl (vw_subF Vw.row Tx.len (Nat.zero_le _) hkl hsh.2)) | exact Src.flatv Tx.len Tx.one (Vw.pick 6 rfl (vw_subF Vw.row Tx.len (Nat.zero_le _) hkl hsh.2)) | exact Src.flatv Tx.len Tx.one (Vw.pick 7 rfl (vw_subF Vw.row Tx.len (Nat.zero_le _) hkl hsh.2)) | exact Src.flatv Tx.len Tx.one (Vw.pick 8 rfl (vw_subF Vw.row Tx.len (Nat.zero_le _) hkl hsh.2)) | exact Src.flatv Tx.len Tx.one (Vw.pick 0 rfl (vw_subF Vw.row Tx.len hkl (Nat.le_refl _) hsh.2)) | exact Src.flatv Tx.len Tx.one (Vw.pick 1 rfl (vw_subF Vw.row Tx.len hkl (Nat.le_refl _) hsh.2)) | exact Src.flatv Tx.len Tx.one (Vw.pick 2 rfl (vw_subF Vw.row Tx.len hkl (Nat.le_refl _) hsh.2)) | exact Src.flatv Tx.len Tx.one (Vw.pick 3 rfl (vw_subF Vw.row Tx.len hkl (Nat.le_refl _) hsh.2)) | exact Src.flatv Tx.len Tx.one (Vw.pick 4 rfl (vw_subF Vw.row Tx.len hkl (Nat.le_refl _) hsh.2)) | exact Src.flatv Tx.len Tx.one (Vw.pick 5 rfl (vw_subF Vw.row Tx.len hkl (Nat.le_refl _) hsh.2)) | exact Src.flatv Tx.len Tx.one (Vw.pick 6 rfl (vw_subF Vw.row Tx.len hkl (Nat.le_refl _) hsh.2)) | exact Src.flatv Tx.len Tx.one (Vw.pick 7 rfl (vw_subF Vw.row Tx.len hkl (Nat.le_refl _) hsh.2)) | exact Src.flatv Tx.len Tx.one (Vw.pick 8 rfl (vw_subF Vw.row Tx.len hkl (Nat.le_refl _) hsh.2)) | exact Src.flatv Tx.len Tx.one (Vw.pick 0 rfl Vw.row) | exact Src.flatv Tx.len Tx.one (Vw.pick 1 rfl Vw.row) | exact Src.flatv Tx.len Tx.one (Vw.pick 2 rfl Vw.row) | exact Src.flatv Tx.len Tx.one (Vw.pick 3 rfl Vw.row) | exact Src.flatv Tx.len Tx.one (Vw.pick 4 rfl Vw.row) | exact Src.flatv Tx.len Tx.one (Vw.pick 5 rfl Vw.row) | exact Src.flatv Tx.len Tx.one (Vw.pick 6 rfl Vw.row) | exact Src.flatv Tx.len Tx.one (Vw.pick 7 rfl Vw.row) | exact Src.flatv Tx.len Tx.one (Vw.pick 8 rfl Vw.row)) (by simp only [List.length_take, List.length_drop, List.length_nil]; omega) (by simp only [List.length_take, List.length_drop, List.length_nil]; omega)) rfl ?_
                rintro _ _ ⟨p67, c67, rfl, hn67, rfl⟩
                simp only [List.set_cons_zero, List.set_cons_succ, List.nil_append]
                rw [show (nm.drop 0).take (k - 0) = nm.take k from by simp]
                refine any_eff' (i := 11) (by kernel_rfl) rfl rfl (eff_appF (f := Tx.cs) (l2 := [wd]) 1 sl24 (.inl ⟨9, Tryd.underlying24⟩) rfl rfl rfl (by first | exact Src.flatv Tx.len Tx.one (Vw.pick 0 rfl (vw_subF Vw.row Tx.len (Nat.zero_le _) hkl hsh.2)) | exact Src.flatv Tx.len Tx.one (Vw.pick 1 rfl (vw_subF Vw.row Tx.len (Nat.zero_le _) hkl hsh.2)) | exact Src.flatv Tx.len Tx.one (Vw.pick 2 rfl (vw_subF Vw.row Tx.len (Nat.zero_le _) hkl hsh.2)) | exact Src.flatv Tx.len Tx.one (Vw.pick 3 rfl (vw_subF Vw.row Tx.len (Nat.zero_le _) hkl hsh.2)) | exact Src.flatv Tx.len Tx.one (Vw.pick 4 rfl (vw_subF Vw.row Tx.len (Nat.zero_le _) hkl hsh.2)) | exact Src.flatv Tx.len Tx.one (Vw.pick 5 rfl (vw_subF Vw.row Tx.len (Nat.zero_le _) hkl hsh.2)) | exact Src.flatv Tx.len Tx.one (Vw.pick 6 rfl (vw_subF Vw.row Tx.len (Nat.zero_le _) hkl hsh.2)) | exact Src.flatv Tx.len Tx.one (Vw.pick 7 rfl (vw_subF Vw.row Tx.len (Nat.zero_le _) hkl hsh.2)) | exact Src.flatv Tx.len Tx.one (Vw.pick 8 rfl (vw_subF Vw.row Tx.len (Nat.zero_le _) hkl hsh.2)) | exact Src.flatv Tx.len Tx.one (Vw.pick 0 rfl (vw_subF Vw.row Tx.len hkl (Nat.le_refl _) hsh.2)) | exact Src.flatv Tx.len Tx.one (Vw.pick 1 rfl (vw_subF Vw.row Tx.len hkl (Nat.le_refl _) hsh.2)) | exact Src.flatv Tx.len Tx.one (Vw.pick 2 rfl (vw_subF Vw.row Tx.len hkl (Nat.le_refl _) hsh.2)) | exact Src.flatv Tx.len Tx.one (Vw.pick 3 rfl (vw_subF Vw.row Tx.len hkl (Nat.le_refl _) hsh.2)) | exact Src.flatv Tx.len Tx.one (Vw.pick 4 rfl (vw_subF Vw.row Tx.len hkl (Nat.le_refl _) hsh.2)) | exact Src.flatv Tx.len Tx.one (Vw.pick 5 rfl (vw_subF Vw.row Tx.len hkl (Nat.le_refl _) hsh.2)) | exact Src.flatv Tx.len Tx.one (Vw.pick 6 rfl (vw_subF Vw.row Tx.len hkl (Nat.le_refl _) hsh.2)) | exact Src.flatv Tx.len Tx.one (Vw.pick 7 rfl (vw_subF Vw.row Tx.len hkl (Nat.le_refl _) hsh.2)) | exact Src.flatv Tx.len Tx.one (Vw.pick 8 rfl (vw_subF Vw.row Tx.len hkl (Nat.le_refl _) hsh.2)) | exact Src.flatv Tx.len Tx.one (Vw.pick 0 rfl Vw.row) | exact Src.flatv Tx.len Tx.one (Vw.pick 1 rfl Vw.row) | exact Src.flatv Tx.len Tx.one (Vw.pick 2 rfl Vw.row) | exact Src.flatv Tx.len Tx.one (Vw.pick 3 rfl Vw.row) | exact Src.flatv Tx.len Tx.one (Vw.pick 4 rfl Vw.row) | exact Src.flatv Tx.len Tx.one (Vw.pick 5 rfl Vw.row) | exact Src.flatv Tx.len Tx.one (Vw.pick 6 rfl Vw.row) | exact Src.flatv Tx.len Tx.one (Vw.pick 7 rfl Vw.row) | exact Src.flatv Tx.len Tx.one (Vw.pick 8 rfl Vw.row)) (by simp only [List.length_take, List.length_cons, List.length_nil]; omega) (by simp only [List.length_take, List.length_cons, List.length_nil]; omega)) rfl ?_
                rintro _ _ ⟨p74, c74, rfl, hn74, rfl⟩
                simp only [List.set_cons_zero, List.set_cons_succ]
                refine any_eff' (i := 15) (by kernel_rfl) rfl rfl (eff_appF (f := Tx.cs) (l2 := (nm.drop k).take (nm.length - k)) 1 sl24 (.inl ⟨9, Tryd.underlying24⟩) rfl rfl rfl (by first | exact Src.flatv Tx.len Tx.one (Vw.pick 0 rfl (vw_subF Vw.row Tx.len (Nat.zero_le _) hkl hsh.2)) | exact Src.flatv Tx.len Tx.one (Vw.pick 1 rfl (vw_subF Vw.row Tx.len (Nat.zero_le _) hkl hsh.2)) | exact Src.flatv Tx.len Tx.one (Vw.pick 2 rfl (vw_subF Vw.row Tx.len (Nat.zero_le _) hkl hsh.2)) | exact Src.flatv Tx.len Tx.one (Vw.pick 3 rfl (vw_subF Vw.row Tx.len (Nat.zero_le _) hkl hsh.2)) | exact Src.flatv Tx.len Tx.one (Vw.pick 4 rfl (vw_subF Vw.row Tx.len (Nat.zero_le _) hkl hsh.2)) | exact Src.flatv Tx.len Tx.one (Vw.pick 5 rfl (vw_subF Vw.row Tx.len (Nat.zero_le _) hkl hsh.2)) | exact Src.flatv Tx.len Tx.one (Vw.pick 6 rfl (vw_subF Vw.row Tx.len (Nat.zero_le _) hkl hsh.2)) | exact Src.flatv Tx.len Tx.one (Vw.pick 7 rfl (vw_subF Vw.row Tx.len (Nat.zero_le _) hkl hsh.2)) | exact Src.flatv Tx.len Tx.one (Vw.pick 8 rfl (vw_subF Vw.row Tx.len (Nat.zero_le _) hkl hsh.2)) | exact Src.flatv Tx.len Tx.one (Vw.pick 0 rfl (vw_subF Vw.row Tx.len hkl (Nat.le_refl _) hsh.2)) | exact Src.flatv Tx.len Tx.one (Vw.pick 1 rfl (vw_subF Vw.row Tx.len hkl (Nat.le_refl _) hsh.2)) | exact Src.flatv Tx.len Tx.one (Vw.pick 2 rfl (vw_subF Vw.row Tx.len hkl (Nat.le_refl _) hsh.2)) | exact Src.flatv Tx.len Tx.one (Vw.pick 3 rfl (vw_subF Vw.row Tx.len hkl (Nat.le_refl _) hsh.2)) | exact Src.flatv Tx.len Tx.one (Vw.pick 4 rfl (vw_subF Vw.row Tx.len hkl (Nat.le_refl _) hsh.2)) | exact Src.flatv Tx.len Tx.one (Vw.pick 5 rfl (vw_subF Vw.row Tx.len hkl (Nat.le_refl _) hsh.2)) | exact Src.flatv Tx.len Tx.one (Vw.pick 6 rfl (vw_subF Vw.row Tx.len hkl (Nat.le_refl _) hsh.2)) | exact Src.flatv Tx.len Tx.one (Vw.pick 7 rfl (vw_subF Vw.row Tx.len hkl (Nat.le_refl _) hsh.2)) | exact Src.flatv Tx.len Tx.one (Vw.pick 8 rfl (vw_subF Vw.row Tx.len hkl (Nat.le_refl _) hsh.2)) | exact Src.flatv Tx.len Tx.one (Vw.pick 0 rfl Vw.row) | exact Src.flatv Tx.len Tx.one (Vw.pick 1 rfl Vw.row) | exact Src.flatv Tx.len Tx.one (Vw.pick 2 rfl Vw.row) | exact Src.flatv Tx.len Tx.one (Vw.pick 3 rfl Vw.row) | exact Src.flatv Tx.len Tx.one (Vw.pick 4 rfl Vw.row) | exact Src.flatv Tx.len Tx.one (Vw.pick 5 rfl Vw.row) | exact Src.flatv Tx.len Tx.one (Vw.pick 6 rfl Vw.row) | exact Src.flatv Tx.len Tx.one (Vw.pick 7 rfl Vw.row) | exact Src.flatv Tx.len Tx.one (Vw.pick 8 rfl Vw.row)) (by simp only [List.length_append, List.length_take, List.length_drop, List.length_cons, List.length_nil]; omega) (by simp only [List.length_append, List.length_take, List.length_drop, List.length_cons, List.length_nil]; omega)) rfl ?_
                rintro _ _ ⟨p78, c78, rfl, hn78, rfl⟩
                simp only [List.set_cons_zero, List.set_cons_succ]
                rw [show (nm.drop k).take (nm.length - k) = nm.drop k from List.take_of_length_le (by simp)]
                refine any_unlock (m' := 17) (L' := []) (by kernel_rfl) unlock ?_
                simp only [List.cons_append, List.nil_append, List.append_nil]
                refine any_ro' (i := 16) (by kernel_rfl) rfl rfl (ro_assign rfl) rfl (fun _ _ _ h => h) ?_
                refine any_doneH (by kernel_rfl) ?_
                refine Then_normal ?_
                refine over_cut (kept ⟨wd, p78, c78, ⟨hwl, hwr⟩, rfl, rfl⟩ ?_ ?_ ?_)
                · exact (by repeat (first | exact Has.nil _ | refine Has.cons rfl ?_))
                · exact (by repeat (first | exact Has.nil _ | refine Has.cons rfl ?_))
                · exact (SubH.cons 2 rfl (SubH.cons 2 rfl (SubH.cons 2 rfl (SubH.nil _))))
            · refine at_eff' rfl rfl (eff_lit sl24 rfl (sbld (cs := txs [wd]) [(.string ByteArray.empty)] sl24 (by decide) (by kernel_rfl) rfl) rfl (by decide)) rfl ?_
              rintro _ _ ⟨b73, rfl, rfl⟩
              refine any_eff' (i := 0) (by kernel_rfl) rfl rfl (eff_lit sl24 rfl (sbld (cs := []) [] sl24 (by decide) (by kernel_rfl) rfl) rfl (by decide)) rfl ?_
              rintro _ _ ⟨b63, rfl, rfl⟩
              refine any_eff' (i := 4) (by kernel_rfl) rfl rfl (eff_appF (f := Tx.cs) (l := []) (l2 := (nm.drop 0).take (k - 0)) 0 sl24 (.inl ⟨9, Tryd.underlying24⟩) rfl rfl rfl (by first | exact Src.flatv Tx.len Tx.one (Vw.pick 0 rfl (vw_subF Vw.row Tx.len (Nat.zero_le _) hkl hsh.2)) | exact Src.flatv Tx.len Tx.one (Vw.pick 1 rfl (vw_subF Vw.row Tx.len (Nat.zero_le _) hkl hsh.2)) | exact Src.flatv Tx.len Tx.one (Vw.pick 2 rfl (vw_subF Vw.row Tx.len (Nat.zero_le _) hkl hsh.2)) | exact Src.flatv Tx.len Tx.one (Vw.pick 3 rfl (vw_subF Vw.row Tx.len (Nat.zero_le _) hkl hsh.2)) | exact Src.flatv Tx.len Tx.one (Vw.pick 4 rfl (vw_subF Vw.row Tx.len (Nat.zero_le _) hkl hsh.2)) | exact Src.flatv Tx.len Tx.one (Vw.pick 5 rfl (vw_subF Vw.row Tx.len (Nat.zero_le _) hkl hsh.2)) | exact Src.flatv Tx.len Tx.one (Vw.pick 6 rfl (vw_subF Vw.row Tx.len (Nat.zero_le _) hkl hsh.2)) | exact Src.flatv Tx.len Tx.one (Vw.pick 7 rfl (vw_subF Vw.row Tx.len (Nat.zero_le _) hkl hsh.2)) | exact Src.flatv Tx.len Tx.one (Vw.pick 8 rfl (vw_subF Vw.row Tx.len (Nat.zero_le _) hkl hsh.2)) | exact Src.flatv Tx.len Tx.one (Vw.pick 0 rfl (vw_subF Vw.row Tx.len hkl (Nat.le_refl _) hsh.2)) | exact Src.flatv Tx.len Tx.one (Vw.pick 1 rfl (vw_subF Vw.row Tx.len hkl (Nat.le_refl _) hsh.2)) | exact Src.flatv Tx.len Tx.one (Vw.pick 2 rfl (vw_subF Vw.row Tx.len hkl (Nat.le_refl _) hsh.2)) | exact Src.flatv Tx.len Tx.one (Vw.pick 3 rfl (vw_subF Vw.row Tx.len hkl (Nat.le_refl _) hsh.2)) | exact Src.flatv Tx.len Tx.one (Vw.pick 4 rfl (vw_subF Vw.row Tx.len hkl (Nat.le_refl _) hsh.2)) | exact Src.flatv Tx.len Tx.one (Vw.pick 5 rfl (vw_subF Vw.row Tx.len hkl (Nat.le_refl _) hsh.2)) | exact Src.flatv Tx.len Tx.one (Vw.pick 6 rfl (vw_subF Vw.row Tx.len hkl (Nat.le_refl _) hsh.2)) | exact Src.flatv Tx.len Tx.one (Vw.pick 7 rfl (vw_subF Vw.row Tx.len hkl (Nat.le_refl _) hsh.2)) | exact Src.flatv Tx.len Tx.one (Vw.pick 8 rfl (vw_subF Vw.row Tx.len hkl (Nat.le_refl _) hsh.2)) | exact Src.flatv Tx.len Tx.one (Vw.pick 0 rfl Vw.row) | exact Src.flatv Tx.len Tx.one (Vw.pick 1 rfl Vw.row) | exact Src.flatv Tx.len Tx.one (Vw.pick 2 rfl Vw.row) | exact Src.flatv Tx.len Tx.one (Vw.pick 3 rfl Vw.row) | exact Src.flatv Tx.len Tx.one (Vw.pick 4 rfl Vw.row) | exact Src.flatv Tx.len Tx.one (Vw.pick 5 rfl Vw.row) | exact Src.flatv Tx.len Tx.one (Vw.pick 6 rfl Vw.row) | exact Src.flatv Tx.len Tx.one (Vw.pick 7 rfl Vw.row) | exact Src.flatv Tx.len Tx.one (Vw.pick 8 rfl Vw.row)) (by simp only [List.length_take, List.length_drop, List.length_nil]; omega) (by simp only [List.length_take, List.length_drop, List.length_nil]; omega)) rfl ?_
              rintro _ _ ⟨p67, c67, rfl, hn67, rfl⟩
              simp only [List.set_cons_zero, List.set_cons_succ, List.nil_append]
              rw [show (nm.drop 0).take (k - 0) = nm.take k from by simp]
              refine any_eff' (i := 11) (by kernel_rfl) rfl rfl (eff_appF (f := Tx.cs) (l2 := [wd]) 0 sl24 (.inl ⟨9, Tryd.underlying24⟩) rfl rfl rfl (by first | exact Src.flatv Tx.len Tx.one (Vw.pick 0 rfl (vw_subF Vw.row Tx.len (Nat.zero_le _) hkl hsh.2)) | exact Src.flatv Tx.len Tx.one (Vw.pick 1 rfl (vw_subF Vw.row Tx.len (Nat.zero_le _) hkl hsh.2)) | exact Src.flatv Tx.len Tx.one (Vw.pick 2 rfl (vw_subF Vw.row Tx.len (Nat.zero_le _) hkl hsh.2)) | exact Src.flatv Tx.len Tx.one (Vw.pick 3 rfl (vw_subF Vw.row Tx.len (Nat.zero_le _) hkl hsh.2)) | exact Src.flatv Tx.len Tx.one (Vw.pick 4 rfl (vw_subF Vw.row Tx.len (Nat.zero_le _) hkl hsh.2)) | exact Src.flatv Tx.len Tx.one (Vw.pick 5 rfl (vw_subF Vw.row Tx.len (Nat.zero_le _) hkl hsh.2)) | exact Src.flatv Tx.len Tx.one (Vw.pick 6 rfl (vw_subF Vw.row Tx.len (Nat.zero_le _) hkl hsh.2)) | exact Src.flatv Tx.len Tx.one (Vw.pick 7 rfl (vw_subF Vw.row Tx.len (Nat.zero_le _) hkl hsh.2)) | exact Src.flatv Tx.len Tx.one (Vw.pick 8 rfl (vw_subF Vw.row Tx.len (Nat.zero_le _) hkl hsh.2)) | exact Src.flatv Tx.len Tx.one (Vw.pick 0 rfl (vw_subF Vw.row Tx.len hkl (Nat.le_refl _) hsh.2)) | exact Src.flatv Tx.len Tx.one (Vw.pick 1 rfl (vw_subF Vw.row Tx.len hkl (Nat.le_refl _) hsh.2)) | exact Src.flatv Tx.len Tx.one (Vw.pick 2 rfl (vw_subF Vw.row Tx.len hkl (Nat.le_refl _) hsh.2)) | exact Src.flatv Tx.len Tx.one (Vw.pick 3 rfl (vw_subF Vw.row Tx.len hkl (Nat.le_refl _) hsh.2)) | exact Src.flatv Tx.len Tx.one (Vw.pick 4 rfl (vw_subF Vw.row Tx.len hkl (Nat.le_refl _) hsh.2)) | exact Src.flatv Tx.len Tx.one (Vw.pick 5 rfl (vw_subF Vw.row Tx.len hkl (Nat.le_refl _) hsh.2)) | exact Src.flatv Tx.len Tx.one (Vw.pick 6 rfl (vw_subF Vw.row Tx.len hkl (Nat.le_refl _) hsh.2)) | exact Src.flatv Tx.len Tx.one (Vw.pick 7 rfl (vw_subF Vw.row Tx.len hkl (Nat.le_refl _) hsh.2)) | exact Src.flatv Tx.len Tx.one (Vw.pick 8 rfl (vw_subF Vw.row Tx.len hkl (Nat.le_refl _) hsh.2)) | exact Src.flatv Tx.len Tx.one (Vw.pick 0 rfl Vw.row) | exact Src.flatv Tx.len Tx.one (Vw.pick 1 rfl Vw.row) | exact Src.flatv Tx.len Tx.one (Vw.pick 2 rfl Vw.row) | exact Src.flatv Tx.len Tx.one (Vw.pick 3 rfl Vw.row) | exact Src.flatv Tx.len Tx.one (Vw.pick 4 rfl Vw.row) | exact Src.flatv Tx.len Tx.one (Vw.pick 5 rfl Vw.row) | exact Src.flatv Tx.len Tx.one (Vw.pick 6 rfl Vw.row) | exact Src.flatv Tx.len Tx.one (Vw.pick 7 rfl Vw.row) | exact Src.flatv Tx.len Tx.one (Vw.pick 8 rfl Vw.row)) (by simp only [List.length_take, List.length_cons, List.length_nil]; omega) (by simp only [List.length_take, List.length_cons, List.length_nil]; omega)) rfl ?_
              rintro _ _ ⟨p74, c74, rfl, hn74, rfl⟩
              simp only [List.set_cons_zero, List.set_cons_succ]
              refine any_eff' (i := 15) (by kernel_rfl) rfl rfl (eff_appF (f := Tx.cs) (l2 := (nm.drop k).take (nm.length - k)) 0 sl24 (.inl ⟨9, Tryd.underlying24⟩) rfl rfl rfl (by first | exact Src.flatv Tx.len Tx.one (Vw.pick 0 rfl (vw_subF Vw.row Tx.len (Nat.zero_le _) hkl hsh.2)) | exact Src.flatv Tx.len Tx.one (Vw.pick 1 rfl (vw_subF Vw.row Tx.len (Nat.zero_le _) hkl hsh.2)) | exact Src.flatv Tx.len Tx.one (Vw.pick 2 rfl (vw_subF Vw.row Tx.len (Nat.zero_le _) hkl hsh.2)) | exact Src.flatv Tx.len Tx.one (Vw.pick 3 rfl (vw_subF Vw.row Tx.len (Nat.zero_le _) hkl hsh.2)) | exact Src.flatv Tx.len Tx.one (Vw.pick 4 rfl (vw_subF Vw.row Tx.len (Nat.zero_le _) hkl hsh.2)) | exact Src.flatv Tx.len Tx.one (Vw.pick 5 rfl (vw_subF Vw.row Tx.len (Nat.zero_le _) hkl hsh.2)) | exact Src.flatv Tx.len Tx.one (Vw.pick 6 rfl (vw_subF Vw.row Tx.len (Nat.zero_le _) hkl hsh.2)) | exact Src.flatv Tx.len Tx.one (Vw.pick 7 rfl (vw_subF Vw.row Tx.len (Nat.zero_le _) hkl hsh.2)) | exact Src.flatv Tx.len Tx.one (Vw.pick 8 rfl (vw_subF Vw.row Tx.len (Nat.zero_le _) hkl hsh.2)) | exact Src.flatv Tx.len Tx.one (Vw.pick 0 rfl (vw_subF Vw.row Tx.len hkl (Nat.le_refl _) hsh.2)) | exact Src.flatv Tx.len Tx.one (Vw.pick 1 rfl (vw_subF Vw.row Tx.len hkl (Nat.le_refl _) hsh.2)) | exact Src.flatv Tx.len Tx.one (Vw.pick 2 rfl (vw_subF Vw.row Tx.len hkl (Nat.le_refl _) hsh.2)) | exact Src.flatv Tx.len Tx.one (Vw.pick 3 rfl (vw_subF Vw.row Tx.len hkl (Nat.le_refl _) hsh.2)) | exact Src.flatv Tx.len Tx.one (Vw.pick 4 rfl (vw_subF Vw.row Tx.len hkl (Nat.le_refl _) hsh.2)) | exact Src.flatv Tx.len Tx.one (Vw.pick 5 rfl (vw_subF Vw.row Tx.len hkl (Nat.le_refl _) hsh.2)) | exact Src.flatv Tx.len Tx.one (Vw.pick 6 rfl (vw_subF Vw.row Tx.len hkl (Nat.le_refl _) hsh.2)) | exact Src.flatv Tx.len Tx.one (Vw.pick 7 rfl (vw_subF Vw.row Tx.len hkl (Nat.le_refl _) hsh.2)) | exact Src.flatv Tx.len Tx.one (Vw.pick 8 rfl (vw_subF Vw.row Tx.len hkl (Nat.le_refl _) hsh.2)) | exact Src.flatv Tx.len Tx.one (Vw.pick 0 rfl Vw.row) | exact Src.flatv Tx.len Tx.one (Vw.pick 1 rfl Vw.row) | exact Src.flatv Tx.len Tx.one (Vw.pick 2 rfl Vw.row) | exact Src.flatv Tx.len Tx.one (Vw.pick 3 rfl Vw.row) | exact Src.flatv Tx.len Tx.one (Vw.pick 4 rfl Vw.row) | exact Src.flatv Tx.len Tx.one (Vw.pick 5 rfl Vw.row) | exact Src.flatv Tx.len Tx.one (Vw.pick 6 rfl Vw.row) | exact Src.flatv Tx.len Tx.one (Vw.pick 7 rfl Vw.row) | exact Src.flatv Tx.len Tx.one (Vw.pick 8 rfl Vw.row)) (by simp only [List.length_append, List.length_take, List.length_drop, List.length_cons, List.length_nil]; omega) (by simp only [List.length_append, List.length_take, List.length_drop, List.length_cons, List.length_nil]; omega)) rfl ?_
              rintro _ _ ⟨p78, c78, rfl, hn78, rfl⟩
              simp only [List.set_cons_zero, List.set_cons_succ]
              rw [show (nm.drop k).take (nm.length - k) = nm.drop k from List.take_of_length_le (by simp)]
              refine any_unlock (m' := 17) (L' := []) (by kernel_rfl) unlock ?_
              simp only [List.cons_append, List.nil_append, List.append_nil]
              refine any_ro' (i := 16) (by kernel_rfl) rfl rfl (ro_assign rfl) rfl (fun _ _ _ h => h) ?_
              refine any_doneH (by kernel_rfl) ?_
              refine Then_normal ?_
              refine over_cut (kept ⟨wd, p78, c78, ⟨hwl, hwr⟩, rfl, rfl⟩ ?_ ?_ ?_)
              · exact (by repeat (first | exact Has.nil _ | refine Has.cons rfl ?_))
              · exact (by repeat (first | exact Has.nil _ | refine Has.cons rfl ?_))
              · exact (SubH.cons 1 rfl (SubH.cons 2 rfl (SubH.cons 2 rfl (SubH.nil _))))
        · rintro Δ LL ⟨wd, p78, c78, ⟨hwl, hwr⟩, rfl, rfl⟩
          simp only [List.cons_append, List.nil_append]
          refine wp_seq' ?_
          refine wp_know (fun w F s => row_caps 0 rfl s) ?_
          intro hca
          refine wp_know (fun w F s => row_caps 1 rfl s) ?_
          intro hcn
          have hrun := dots_run (k := k) hok hwr
          have h300 : ∀ x ∈ nm, x.length ≤ 300 := fun x hx => Nat.le_trans (ptOk_30 (hok x hx)) (by decide)
          obtain ⟨al, hal⟩ : ∃ z, z = (nm.take k ++ [wd] ++ nm.drop k) := ⟨_, rfl⟩
          rw [← hal] at hca hrun ⊢
          have hol : al.length ≤ 7 := by rw [hal, cut_len hkl]; omega
          have hpl : ptLen al = ptLen nm + (wd.length + 1) := by rw [hal, ptLen_cut]
          have hjl := (pJoin_len al).1
          have hal3 : ∀ x ∈ al, x.length ≤ 300 := fun x hx => by
            rw [hal] at hx
            rcases mem_cut hx with h | h
            · exact h300 x h
            · rw [h]; omega
          have hj0 := (pJoin_len al).2.2
          have hsp := pSplit_some (s := pJoin al) (by omega) hrun
          have hsp2 := pSplit_some (s := (pJoin al).drop 1) (by rw [List.length_drop]; omega) (run_tail hrun)
          have hsp3 := pSplit_some (s := pJoin al ++ [47]) (by rw [List.length_append]; simp; omega) (run_slash hrun)
          have hcl : pClean (pJoin al ++ [47]) = (pJoin nm, 0) := by unfold pClean; rw [hsp3]; rfl
          refine wp_region' ?_
          refine ops_ro' rfl (ro_move rfl) rfl ?_
          refine ops_eff' rfl (eff_callM (Pre := []) Tryd.call18 rfl rfl (Split.nil _) (ptJoin_spec _ _ _ al (by first | exact (Vw.pick 0 rfl (vw_subF Vw.row Tx.len (Nat.zero_le _) hkl hsh.2)) | exact (Vw.pick 1 rfl (vw_subF Vw.row Tx.len (Nat.zero_le _) hkl hsh.2)) | exact (Vw.pick 2 rfl (vw_subF Vw.row Tx.len (Nat.zero_le _) hkl hsh.2)) | exact (Vw.pick 3 rfl (vw_subF Vw.row Tx.len (Nat.zero_le _) hkl hsh.2)) | exact (Vw.pick 4 rfl (vw_subF Vw.row Tx.len (Nat.zero_le _) hkl hsh.2)) | exact (Vw.pick 5 rfl (vw_subF Vw.row Tx.len (Nat.zero_le _) hkl hsh.2)) | exact (Vw.pick 6 rfl (vw_subF Vw.row Tx.len (Nat.zero_le _) hkl hsh.2)) | exact (Vw.pick 7 rfl (vw_subF Vw.row Tx.len (Nat.zero_le _) hkl hsh.2)) | exact (Vw.pick 8 rfl (vw_subF Vw.row Tx.len (Nat.zero_le _) hkl hsh.2)) | exact (Vw.pick 0 rfl (vw_subF Vw.row Tx.len hkl (Nat.le_refl _) hsh.2)) | exact (Vw.pick 1 rfl (vw_subF Vw.row Tx.len hkl (Nat.le_refl _) hsh.2)) | exact (Vw.pick 2 rfl (vw_subF Vw.row Tx.len hkl (Nat.le_refl _) hsh.2)) | exact (Vw.pick 3 rfl (vw_subF Vw.row Tx.len hkl (Nat.le_refl _) hsh.2)) | exact (Vw.pick 4 rfl (vw_subF Vw.row Tx.len hkl (Nat.le_refl _) hsh.2)) | exact (Vw.pick 5 rfl (vw_subF Vw.row Tx.len hkl (Nat.le_refl _) hsh.2)) | exact (Vw.pick 6 rfl (vw_subF Vw.row Tx.len hkl (Nat.le_refl _) hsh.2)) | exact (Vw.pick 7 rfl (vw_subF Vw.row Tx.len hkl (Nat.le_refl _) hsh.2)) | exact (Vw.pick 8 rfl (vw_subF Vw.row Tx.len hkl (Nat.le_refl _) hsh.2)) | exact Vw.pick 0 rfl Vw.row | exact Vw.pick 1 rfl Vw.row | exact Vw.pick 2 rfl Vw.row | exact Vw.pick 3 rfl Vw.row | exact Vw.pick 4 rfl Vw.row | exact Vw.pick 5 rfl Vw.row | exact Vw.pick 6 rfl Vw.row | exact Vw.pick 7 rfl Vw.row | exact Vw.pick 8 rfl Vw.row | exact Vw.nil _ | exact Vw.empty _ _) hca (by omega) hal3)) rfl ?_
          rintro _ H' ⟨_, ⟨rfl, rfl⟩, hH⟩
          simp only [List.cons_append, List.nil_append, List.eraseIdx_cons_zero, List.eraseIdx_cons_succ, List.set_cons_zero, List.set_cons_succ] at hH
          subst hH
          refine ops_ro' rfl (ro_assign rfl) rfl ?_
          refine ops_nil ?_
          refine Then_normal ?_
          refine wp_seq' ?_
          refine wp_seq' ?_
          refine wp_region' ?_
          refine ops_ro' rfl (ro_move rfl) rfl ?_
          refine ops_ro' rfl (ro_lenS (t' := 0) Tryd.underlying9 rfl) rfl ?_
          refine ops_ro' rfl (ro_eql rfl rfl (decide_eq_false (by omega))) rfl ?_
          refine ops_nil ?_
          refine Then_normal ?_
          refine wp_condF rfl ?_
          refine wp_skip' ?_
          refine Then_normal ?_
          refine wp_seq' ?_
          refine wp_region' ?_
          refine ops_ro' rfl (ro_move rfl) rfl ?_
          refine ops_eff' rfl (eff_call Tryd.call11 rfl rfl (by repeat (first | exact Split.nil _ | apply Split.cons 0 rfl | apply Split.cons 1 rfl | apply Split.cons 2 rfl | apply Split.cons 3 rfl | apply Split.cons 4 rfl | apply Split.cons 5 rfl | apply Split.cons 6 rfl | apply Split.cons 7 rfl | apply Split.cons 8 rfl | apply Split.cons 9 rfl | apply Split.cons 10 rfl | apply Split.cons 11 rfl)) (ptSplit_spec V hM (pJoin al) (by omega))) rfl ?_
          rintro _ H' ⟨_, ⟨_, ⟨p86, c86, rfl, rfl⟩, rfl⟩, hH⟩
          simp only [List.cons_append, List.nil_append, List.eraseIdx_cons_zero, List.eraseIdx_cons_succ, List.set_cons_zero, List.set_cons_succ] at hH
          subst hH
          rw [hsp]
          refine ops_ro' rfl (ro_move rfl) rfl ?_
          refine ops_ro' rfl (ro_extract rfl rfl) rfl ?_
          refine ops_ro' rfl (ro_extract rfl rfl) rfl ?_
          refine ops_ro' rfl (ro_assign rfl) rfl ?_
          refine ops_ro' rfl (ro_assign rfl) rfl ?_
          refine ops_nil ?_
          refine Then_normal ?_
          refine wp_seq' ?_
          refine wp_region' ?_
          refine ops_ro' rfl (ro_move rfl) rfl ?_
          refine ops_ro' rfl (ro_sliceS Tryd.underlying9 rfl (bnd_of rfl rfl) rfl (by dsimp only; omega) (Nat.le_refl _)) rfl ?_
          rw [show ((pJoin al).drop 1).take ((pJoin al).length - 1) = (pJoin al).drop 1 from List.take_of_length_le (by simp)]
          refine ops_eff' rfl (eff_call Tryd.call11 rfl rfl (by repeat (first | exact Split.nil _ | apply Split.cons 0 rfl | apply Split.cons 1 rfl | apply Split.cons 2 rfl | apply Split.cons 3 rfl | apply Split.cons 4 rfl | apply Split.cons 5 rfl | apply Split.cons 6 rfl | apply Split.cons 7 rfl | apply Split.cons 8 rfl | apply Split.cons 9 rfl | apply Split.cons 10 rfl | apply Split.cons 11 rfl)) (ptSplit_spec V hM ((pJoin al).drop 1) (by rw [List.length_drop]; omega))) rfl ?_
          rintro _ H' ⟨_, ⟨_, ⟨p92, c92, rfl, rfl⟩, rfl⟩, hH⟩
          simp only [List.cons_append, List.nil_append, List.eraseIdx_cons_zero, List.eraseIdx_cons_succ, List.set_cons_zero, List.set_cons_succ] at hH
          subst hH
          rw [hsp2]
          refine ops_ro' rfl (ro_move rfl) rfl ?_
          refine ops_ro' rfl (ro_extract rfl rfl) rfl ?_
          refine ops_ro' rfl (ro_extract rfl rfl) rfl ?_
          refine ops_ro' rfl (ro_assign rfl) rfl ?_
          refine ops_ro' rfl (ro_assign rfl) rfl ?_
          refine ops_nil ?_
          refine Then_normal ?_
          refine wp_seq' ?_
          refine wp_region' ?_
          refine ops_ro' rfl (ro_move rfl) rfl ?_
          refine ops_ro' rfl (ro_addS rfl rfl (by first | omega | (simp only [List.length_append, List.length_cons, List.length_nil] at *; omega))) rfl ?_
          refine ops_eff' rfl (eff_call Tryd.call13 rfl rfl (by repeat (first | exact Split.nil _ | apply Split.cons 0 rfl | apply Split.cons 1 rfl | apply Split.cons 2 rfl | apply Split.cons 3 rfl | apply Split.cons 4 rfl | apply Split.cons 5 rfl | apply Split.cons 6 rfl | apply Split.cons 7 rfl | apply Split.cons 8 rfl | apply Split.cons 9 rfl | apply Split.cons 10 rfl | apply Split.cons 11 rfl)) (ptClean_spec V hM (pJoin al ++ [47]) (by rw [List.length_append]; simp; omega))) rfl ?_
          rintro _ H' ⟨_, ⟨_, ⟨rfl, rfl⟩, rfl⟩, hH⟩
          simp only [List.cons_append, List.nil_append, List.eraseIdx_cons_zero, List.eraseIdx_cons_succ, List.set_cons_zero, List.set_cons_succ] at hH
          subst hH
          rw [hcl]
          refine ops_ro' rfl (ro_move rfl) rfl ?_
          refine ops_ro' rfl (ro_extract rfl rfl) rfl ?_
          refine ops_ro' rfl (ro_extract rfl rfl) rfl ?_
          refine ops_ro' rfl (ro_assign rfl) rfl ?_
          refine ops_ro' rfl (ro_assign rfl) rfl ?_
          refine ops_nil ?_
          refine Then_normal ?_
          refine wp_seq' ?_
          refine wp_region' ?_
          refine ops_ro' rfl (ro_move rfl) rfl ?_
          refine ops_ro' rfl (ro_eql rfl rfl (decide_eq_true (by omega))) rfl ?_
          refine ops_ro' rfl (ro_move (v := .bool true) rfl) rfl ?_
          refine ops_ro' rfl (ro_move rfl) rfl ?_
          refine ops_ro' rfl (ro_eql rfl rfl (decide_eq_true (by omega))) rfl ?_
          refine ops_ro' rfl (ro_pick rfl rfl) rfl ?_
          refine ops_ro' rfl (ro_move (v := .bool true) rfl) rfl ?_
          refine ops_ro' rfl (ro_move rfl) rfl ?_
          refine ops_ro' rfl (ro_eql rfl rfl (decide_eq_true (by omega))) rfl ?_
          refine ops_ro' rfl (ro_pick rfl rfl) rfl ?_
          refine ops_ro' rfl (ro_move (v := .bool true) rfl) rfl ?_
          refine ops_ro' rfl (ro_move rfl) rfl ?_
          refine ops_ro' rfl (ro_move rfl) rfl ?_
          refine ops_eff' rfl (eff_callM (Pre := []) Tryd.call15 rfl rfl (Split.nil _) (ktexts_spec _ nm nm _ _ _ _ (by first | exact (Vw.pick 0 rfl (vw_subF Vw.row Tx.len (Nat.zero_le _) hkl hsh.2)) | exact (Vw.pick 1 rfl (vw_subF Vw.row Tx.len (Nat.zero_le _) hkl hsh.2)) | exact (Vw.pick 2 rfl (vw_subF Vw.row Tx.len (Nat.zero_le _) hkl hsh.2)) | exact (Vw.pick 3 rfl (vw_subF Vw.row Tx.len (Nat.zero_le _) hkl hsh.2)) | exact (Vw.pick 4 rfl (vw_subF Vw.row Tx.len (Nat.zero_le _) hkl hsh.2)) | exact (Vw.pick 5 rfl (vw_subF Vw.row Tx.len (Nat.zero_le _) hkl hsh.2)) | exact (Vw.pick 6 rfl (vw_subF Vw.row Tx.len (Nat.zero_le _) hkl hsh.2)) | exact (Vw.pick 7 rfl (vw_subF Vw.row Tx.len (Nat.zero_le _) hkl hsh.2)) | exact (Vw.pick 8 rfl (vw_subF Vw.row Tx.len (Nat.zero_le _) hkl hsh.2)) | exact (Vw.pick 0 rfl (vw_subF Vw.row Tx.len hkl (Nat.le_refl _) hsh.2)) | exact (Vw.pick 1 rfl (vw_subF Vw.row Tx.len hkl (Nat.le_refl _) hsh.2)) | exact (Vw.pick 2 rfl (vw_subF Vw.row Tx.len hkl (Nat.le_refl _) hsh.2)) | exact (Vw.pick 3 rfl (vw_subF Vw.row Tx.len hkl (Nat.le_refl _) hsh.2)) | exact (Vw.pick 4 rfl (vw_subF Vw.row Tx.len hkl (Nat.le_refl _) hsh.2)) | exact (Vw.pick 5 rfl (vw_subF Vw.row Tx.len hkl (Nat.le_refl _) hsh.2)) | exact (Vw.pick 6 rfl (vw_subF Vw.row Tx.len hkl (Nat.le_refl _) hsh.2)) | exact (Vw.pick 7 rfl (vw_subF Vw.row Tx.len hkl (Nat.le_refl _) hsh.2)) | exact (Vw.pick 8 rfl (vw_subF Vw.row Tx.len hkl (Nat.le_refl _) hsh.2)) | exact Vw.pick 0 rfl Vw.row | exact Vw.pick 1 rfl Vw.row | exact Vw.pick 2 rfl Vw.row | exact Vw.pick 3 rfl Vw.row | exact Vw.pick 4 rfl Vw.row | exact Vw.pick 5 rfl Vw.row | exact Vw.pick 6 rfl Vw.row | exact Vw.pick 7 rfl Vw.row | exact Vw.pick 8 rfl Vw.row | exact Vw.nil _ | exact Vw.empty _ _) (by first | exact (Vw.pick 0 rfl (vw_subF Vw.row Tx.len (Nat.zero_le _) hkl hsh.2)) | exact (Vw.pick 1 rfl (vw_subF Vw.row Tx.len (Nat.zero_le _) hkl hsh.2)) | exact (Vw.pick 2 rfl (vw_subF Vw.row Tx.len (Nat.zero_le _) hkl hsh.2)) | exact (Vw.pick 3 rfl (vw_subF Vw.row Tx.len (Nat.zero_le _) hkl hsh.2)) | exact (Vw.pick 4 rfl (vw_subF Vw.row Tx.len (Nat.zero_le _) hkl hsh.2)) | exact (Vw.pick 5 rfl (vw_subF Vw.row Tx.len (Nat.zero_le _) hkl hsh.2)) | exact (Vw.pick 6 rfl (vw_subF Vw.row Tx.len (Nat.zero_le _) hkl hsh.2)) | exact (Vw.pick 7 rfl (vw_subF Vw.row Tx.len (Nat.zero_le _) hkl hsh.2)) | exact (Vw.pick 8 rfl (vw_subF Vw.row Tx.len (Nat.zero_le _) hkl hsh.2)) | exact (Vw.pick 0 rfl (vw_subF Vw.row Tx.len hkl (Nat.le_refl _) hsh.2)) | exact (Vw.pick 1 rfl (vw_subF Vw.row Tx.len hkl (Nat.le_refl _) hsh.2)) | exact (Vw.pick 2 rfl (vw_subF Vw.row Tx.len hkl (Nat.le_refl _) hsh.2)) | exact (Vw.pick 3 rfl (vw_subF Vw.row Tx.len hkl (Nat.le_refl _) hsh.2)) | exact (Vw.pick 4 rfl (vw_subF Vw.row Tx.len hkl (Nat.le_refl _) hsh.2)) | exact (Vw.pick 5 rfl (vw_subF Vw.row Tx.len hkl (Nat.le_refl _) hsh.2)) | exact (Vw.pick 6 rfl (vw_subF Vw.row Tx.len hkl (Nat.le_refl _) hsh.2)) | exact (Vw.pick 7 rfl (vw_subF Vw.row Tx.len hkl (Nat.le_refl _) hsh.2)) | exact (Vw.pick 8 rfl (vw_subF Vw.row Tx.len hkl (Nat.le_refl _) hsh.2)) | exact Vw.pick 0 rfl Vw.row | exact Vw.pick 1 rfl Vw.row | exact Vw.pick 2 rfl Vw.row | exact Vw.pick 3 rfl Vw.row | exact Vw.pick 4 rfl Vw.row | exact Vw.pick 5 rfl Vw.row | exact Vw.pick 6 rfl Vw.row | exact Vw.pick 7 rfl Vw.row | exact Vw.pick 8 rfl Vw.row | exact Vw.nil _ | exact Vw.empty _ _) (by omega))) rfl ?_
          rintro _ H' ⟨_, ⟨rfl, rfl⟩, hH⟩
          simp only [List.cons_append, List.nil_append, List.eraseIdx_cons_zero, List.eraseIdx_cons_succ, List.set_cons_zero, List.set_cons_succ] at hH
          subst hH
          rw [decide_eq_true rfl]
          refine ops_ro' rfl (ro_pick rfl rfl) rfl ?_
          refine ops_ro' rfl (ro_move (v := .bool true) rfl) rfl ?_
          refine ops_ro' rfl (ro_move rfl) rfl ?_
          refine ops_ro' rfl (ro_move rfl) rfl ?_
          refine ops_eff' rfl (eff_callM (Pre := []) Tryd.call15 rfl rfl (Split.nil _) (ktexts_spec _ nm nm _ _ _ _ (by first | exact (Vw.pick 0 rfl (vw_subF Vw.row Tx.len (Nat.zero_le _) hkl hsh.2)) | exact (Vw.pick 1 rfl (vw_subF Vw.row Tx.len (Nat.zero_le _) hkl hsh.2)) | exact (Vw.pick 2 rfl (vw_subF Vw.row Tx.len (Nat.zero_le _) hkl hsh.2)) | exact (Vw.pick 3 rfl (vw_subF Vw.row Tx.len (Nat.zero_le _) hkl hsh.2)) | exact (Vw.pick 4 rfl (vw_subF Vw.row Tx.len (Nat.zero_le _) hkl hsh.2)) | exact (Vw.pick 5 rfl (vw_subF Vw.row Tx.len (Nat.zero_le _) hkl hsh.2)) | exact (Vw.pick 6 rfl (vw_subF Vw.row Tx.len (Nat.zero_le _) hkl hsh.2)) | exact (Vw.pick 7 rfl (vw_subF Vw.row Tx.len (Nat.zero_le _) hkl hsh.2)) | exact (Vw.pick 8 rfl (vw_subF Vw.row Tx.len (Nat.zero_le _) hkl hsh.2)) | exact (Vw.pick 0 rfl (vw_subF Vw.row Tx.len hkl (Nat.le_refl _) hsh.2)) | exact (Vw.pick 1 rfl (vw_subF Vw.row Tx.len hkl (Nat.le_refl _) hsh.2)) | exact (Vw.pick 2 rfl (vw_subF Vw.row Tx.len hkl (Nat.le_refl _) hsh.2)) | exact (Vw.pick 3 rfl (vw_subF Vw.row Tx.len hkl (Nat.le_refl _) hsh.2)) | exact (Vw.pick 4 rfl (vw_subF Vw.row Tx.len hkl (Nat.le_refl _) hsh.2)) | exact (Vw.pick 5 rfl (vw_subF Vw.row Tx.len hkl (Nat.le_refl _) hsh.2)) | exact (Vw.pick 6 rfl (vw_subF Vw.row Tx.len hkl (Nat.le_refl _) hsh.2)) | exact (Vw.pick 7 rfl (vw_subF Vw.row Tx.len hkl (Nat.le_refl _) hsh.2)) | exact (Vw.pick 8 rfl (vw_subF Vw.row Tx.len hkl (Nat.le_refl _) hsh.2)) | exact Vw.pick 0 rfl Vw.row | exact Vw.pick 1 rfl Vw.row | exact Vw.pick 2 rfl Vw.row | exact Vw.pick 3 rfl Vw.row | exact Vw.pick 4 rfl Vw.row | exact Vw.pick 5 rfl Vw.row | exact Vw.pick 6 rfl Vw.row | exact Vw.pick 7 rfl Vw.row | exact Vw.pick 8 rfl Vw.row | exact Vw.nil _ | exact Vw.empty _ _) (by first | exact (Vw.pick 0 rfl (vw_subF Vw.row Tx.len (Nat.zero_le _) hkl hsh.2)) | exact (Vw.pick 1 rfl (vw_subF Vw.row Tx.len (Nat.zero_le _) hkl hsh.2)) | exact (Vw.pick 2 rfl (vw_subF Vw.row Tx.len (Nat.zero_le _) hkl hsh.2)) | exact (Vw.pick 3 rfl (vw_subF Vw.row Tx.len (Nat.zero_le _) hkl hsh.2)) | exact (Vw.pick 4 rfl (vw_subF Vw.row Tx.len (Nat.zero_le _) hkl hsh.2)) | exact (Vw.pick 5 rfl (vw_subF Vw.row Tx.len (Nat.zero_le _) hkl hsh.2)) | exact (Vw.pick 6 rfl (vw_subF Vw.row Tx.len (Nat.zero_le _) hkl hsh.2)) | exact (Vw.pick 7 rfl (vw_subF Vw.row Tx.len (Nat.zero_le _) hkl hsh.2)) | exact (Vw.pick 8 rfl (vw_subF Vw.row Tx.len (Nat.zero_le _) hkl hsh.2)) | exact (Vw.pick 0 rfl (vw_subF Vw.row Tx.len hkl (Nat.le_refl _) hsh.2)) | exact (Vw.pick 1 rfl (vw_subF Vw.row Tx.len hkl (Nat.le_refl _) hsh.2)) | exact (Vw.pick 2 rfl (vw_subF Vw.row Tx.len hkl (Nat.le_refl _) hsh.2)) | exact (Vw.pick 3 rfl (vw_subF Vw.row Tx.len hkl (Nat.le_refl _) hsh.2)) | exact (Vw.pick 4 rfl (vw_subF Vw.row Tx.len hkl (Nat.le_refl _) hsh.2)) | exact (Vw.pick 5 rfl (vw_subF Vw.row Tx.len hkl (Nat.le_refl _) hsh.2)) | exact (Vw.pick 6 rfl (vw_subF Vw.row Tx.len hkl (Nat.le_refl _) hsh.2)) | exact (Vw.pick 7 rfl (vw_subF Vw.row Tx.len hkl (Nat.le_refl _) hsh.2)) | exact (Vw.pick 8 rfl (vw_subF Vw.row Tx.len hkl (Nat.le_refl _) hsh.2)) | exact Vw.pick 0 rfl Vw.row | exact Vw.pick 1 rfl Vw.row | exact Vw.pick 2 rfl Vw.row | exact Vw.pick 3 rfl Vw.row | exact Vw.pick 4 rfl Vw.row | exact Vw.pick 5 rfl Vw.row | exact Vw.pick 6 rfl Vw.row | exact Vw.pick 7 rfl Vw.row | exact Vw.pick 8 rfl Vw.row | exact Vw.nil _ | exact Vw.empty _ _) (by omega))) rfl ?_
          rintro _ H' ⟨_, ⟨rfl, rfl⟩, hH⟩
          simp only [List.cons_append, List.nil_append, List.eraseIdx_cons_zero, List.eraseIdx_cons_succ, List.set_cons_zero, List.set_cons_succ] at hH
          subst hH
          rw [decide_eq_true rfl]
          refine ops_ro' rfl (ro_pick rfl rfl) rfl ?_
          refine ops_ro' rfl (ro_move (v := .bool true) rfl) rfl ?_
          refine ops_ro' rfl (ro_move rfl) rfl ?_
          refine ops_ro' rfl (ro_move rfl) rfl ?_
          refine ops_eff' rfl (eff_callM (Pre := []) Tryd.call18 rfl rfl (Split.nil _) (ptJoin_spec _ p7 c7 nm (by first | exact (Vw.pick 0 rfl (vw_subF Vw.row Tx.len (Nat.zero_le _) hkl hsh.2)) | exact (Vw.pick 1 rfl (vw_subF Vw.row Tx.len (Nat.zero_le _) hkl hsh.2)) | exact (Vw.pick 2 rfl (vw_subF Vw.row Tx.len (Nat.zero_le _) hkl hsh.2)) | exact (Vw.pick 3 rfl (vw_subF Vw.row Tx.len (Nat.zero_le _) hkl hsh.2)) | exact (Vw.pick 4 rfl (vw_subF Vw.row Tx.len (Nat.zero_le _) hkl hsh.2)) | exact (Vw.pick 5 rfl (vw_subF Vw.row Tx.len (Nat.zero_le _) hkl hsh.2)) | exact (Vw.pick 6 rfl (vw_subF Vw.row Tx.len (Nat.zero_le _) hkl hsh.2)) | exact (Vw.pick 7 rfl (vw_subF Vw.row Tx.len (Nat.zero_le _) hkl hsh.2)) | exact (Vw.pick 8 rfl (vw_subF Vw.row Tx.len (Nat.zero_le _) hkl hsh.2)) | exact (Vw.pick 0 rfl (vw_subF Vw.row Tx.len hkl (Nat.le_refl _) hsh.2)) | exact (Vw.pick 1 rfl (vw_subF Vw.row Tx.len hkl (Nat.le_refl _) hsh.2)) | exact (Vw.pick 2 rfl (vw_subF Vw.row Tx.len hkl (Nat.le_refl _) hsh.2)) | exact (Vw.pick 3 rfl (vw_subF Vw.row Tx.len hkl (Nat.le_refl _) hsh.2)) | exact (Vw.pick 4 rfl (vw_subF Vw.row Tx.len hkl (Nat.le_refl _) hsh.2)) | exact (Vw.pick 5 rfl (vw_subF Vw.row Tx.len hkl (Nat.le_refl _) hsh.2)) | exact (Vw.pick 6 rfl (vw_subF Vw.row Tx.len hkl (Nat.le_refl _) hsh.2)) | exact (Vw.pick 7 rfl (vw_subF Vw.row Tx.len hkl (Nat.le_refl _) hsh.2)) | exact (Vw.pick 8 rfl (vw_subF Vw.row Tx.len hkl (Nat.le_refl _) hsh.2)) | exact Vw.pick 0 rfl Vw.row | exact Vw.pick 1 rfl Vw.row | exact Vw.pick 2 rfl Vw.row | exact Vw.pick 3 rfl Vw.row | exact Vw.pick 4 rfl Vw.row | exact Vw.pick 5 rfl Vw.row | exact Vw.pick 6 rfl Vw.row | exact Vw.pick 7 rfl Vw.row | exact Vw.pick 8 rfl Vw.row | exact Vw.nil _ | exact Vw.empty _ _) hcn (by omega) h300)) rfl ?_
          rintro _ H' ⟨_, ⟨rfl, rfl⟩, hH⟩
          simp only [List.cons_append, List.nil_append, List.eraseIdx_cons_zero, List.eraseIdx_cons_succ, List.set_cons_zero, List.set_cons_succ] at hH
          subst hH
          refine ops_ro' rfl (ro_eqlS rfl rfl (decide_eq_true rfl)) rfl ?_
          refine ops_ro' rfl (ro_pick rfl rfl) rfl ?_
          refine ops_ro' rfl (ro_move (v := .bool true) rfl) rfl ?_
          refine ops_eff' rfl (eff_call Tryd.call19 rfl rfl (by repeat (first | exact Split.nil _ | apply Split.cons 0 rfl | apply Split.cons 1 rfl | apply Split.cons 2 rfl | apply Split.cons 3 rfl | apply Split.cons 4 rfl | apply Split.cons 5 rfl | apply Split.cons 6 rfl | apply Split.cons 7 rfl | apply Split.cons 8 rfl | apply Split.cons 9 rfl | apply Split.cons 10 rfl | apply Split.cons 11 rfl)) (known13_spec V hM)) rfl ?_
          rintro _ H' ⟨_, ⟨rfl, rfl⟩, hH⟩
          simp only [List.cons_append, List.nil_append, List.eraseIdx_cons_zero, List.eraseIdx_cons_succ, List.set_cons_zero, List.set_cons_succ] at hH
          subst hH
          refine ops_ro' rfl (ro_pick rfl rfl) rfl ?_
          refine ops_ro' rfl (ro_assign rfl) rfl ?_
          refine ops_nil ?_
          refine Then_normal ?_
          refine wp_ret' ?_
          refine' doneS_ret (res1 rfl rfl) ?_ ?_
          rotate_left 1
          exact ⟨rfl, rfl⟩
          exact (SubH.cons 0 rfl (SubH.nil _))

end Go.Proofs.YtigaolglnnjnmaaDoor
