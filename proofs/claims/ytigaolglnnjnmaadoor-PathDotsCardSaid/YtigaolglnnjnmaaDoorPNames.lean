/-
  The walk of PathNames.
-/
import Derived.Test.YtigaolglnnjnmaaDoorPRules
import Derived.Test.YtigaolglnnjnmaaDoorSxSub
import Derived.Test.YtigaolglnnjnmaaDoorSxFork
namespace Go.Proofs.YtigaolglnnjnmaaDoor
open Go.Sx
set_option linter.unusedVariables false
set_option linter.unusedSimpArgs false
set_option maxRecDepth 100000
set_option maxHeartbeats 4000000

theorem ptOk_30 {x : List UInt8} (h : ptOk x = true) : x.length ≤ 30 := by
  unfold ptOk at h
  simp only [Bool.and_eq_true, decide_eq_true_eq] at h
  exact h.1.1.2
theorem ok_snoc {l : List (List UInt8)} {x : List UInt8} (h : ∀ y ∈ l, ptOk y = true) (hx : ptOk x = true) : ∀ y ∈ l ++ [x], ptOk y = true := fun y hy => by
  rcases List.mem_append.1 hy with hy | hy
  · exact h y hy
  · rw [List.mem_singleton.1 hy]; exact hx
theorem ptLen_snoc (l : List (List UInt8)) (x : List UInt8) : ptLen (l ++ [x]) = ptLen l + 1 + x.length := by rw [ptLen_append]; simp [ptLen]; omega
theorem pSplit_right (s : List UInt8) : ∀ x ∈ (pSplit s).1, ptOk x = true := by
  unfold pSplit
  split
  · intro x hx; cases hx
  · cases e : pRun (some []) (parts 47 s) with
    | none => intro x hx; cases hx
    | some l => exact pRun_all _ _ _ (fun x hx => by cases hx) e
theorem ptLen_cut (nm : List (List UInt8)) (w : List UInt8) (k : Nat) : ptLen (nm.take k ++ [w] ++ nm.drop k) = ptLen nm + (w.length + 1) := by
  have h : ptLen nm = ptLen (nm.take k) + ptLen (nm.drop k) := by rw [← ptLen_append, List.take_append_drop]
  rw [ptLen_append, ptLen_append, h]; simp [ptLen]; omega
theorem mem_cut {nm : List (List UInt8)} {w x : List UInt8} {k : Nat} (h : x ∈ nm.take k ++ [w] ++ nm.drop k) : x ∈ nm ∨ x = w := by
  rcases List.mem_append.1 h with h | h
  · rcases List.mem_append.1 h with h | h
    · exact .inl (List.mem_of_mem_take h)
    · exact .inr (List.mem_singleton.1 h)
  · exact .inl (List.mem_of_mem_drop h)
theorem cut_len {nm : List (List UInt8)} {w : List UInt8} {k : Nat} (h : k ≤ nm.length) : (nm.take k ++ [w] ++ nm.drop k).length = nm.length + 1 := by
  simp only [List.length_append, List.length_take, List.length_drop, List.length_cons, List.length_nil]; omega


theorem pnames_run (V : HProp) (hM : Ml V) (q : Option Addr) (cq : Nat) (l : List (List UInt8)) (hV : Vw V (.slice q l.length cq) l.length (txs l)) (hV2 : ∀ x ∈ l, x.length ≤ 9223372036854775807) (hlq : l.length ≤ 9223372036854775807) (bad : List UInt8) (at' : Int) (ht : -9223372036854775808 ≤ at' ∧ at' ≤ 9223372036854775807) :
    Tri Tryd.prog 6 [.slice q l.length cq, .string (str bad), .int .i64 at'] [V] (fun v H' => v = .bool true ∧ H' = [V]) := by
  refine tri_of_wpS Tryd.func6 rfl Tryd.ntmps6 (by simp) ?_
  refine wp_seq' ?_
  refine wp_region' ?_
  refine ops_ro' rfl (ro_assign rfl) rfl ?_
  refine ops_nil ?_
  refine Then_normal ?_
  refine wp_seq' ?_
  refine wp_region' ?_
  refine ops_ro' rfl (ro_assign rfl) rfl ?_
  refine ops_nil ?_
  refine Then_normal ?_
  refine wp_seq' ?_
  refine wp_region' ?_
  refine ops_ro' rfl (ro_assign rfl) rfl ?_
  refine ops_nil ?_
  refine Then_normal ?_
  refine wp_seq' ?_
  refine wp_seq' ?_
  refine wp_region' ?_
  refine ops_ro' rfl (ro_assign rfl) rfl ?_
  refine ops_nil ?_
  refine Then_normal ?_
  refine wp_block' ?_
  refine wp_loopK 4 (fun m Δ LL => ∃ (i z : Nat) (nm : List (List UInt8)) (p7 : Option Addr) (c7 : Nat), (i + m = l.length ∧ i ≤ 6 ∧ nm.length ≤ i ∧ (∀ y ∈ nm, ptOk y = true) ∧ ptLen nm = z ∧ z ≤ 150) ∧ Δ = [(7, .slice p7 nm.length c7), (8, .int .i64 (z : Nat)), (9, .int .i64 (i : Nat))] ∧ LL = [row 9 1 (.slice p7 nm.length c7) nm.length (txs nm), V]) (m := l.length) (Has.cons (k := 0) rfl (Has.cons (k := 1) rfl (Has.cons (k := 2) rfl (Has.nil _)))) (kept ⟨0, 0, [], none, 0, ⟨by omega, by omega, by simp, (fun y hy => by cases hy), rfl, by omega⟩, rfl, rfl⟩ (by repeat (first | exact Has.nil _ | refine Has.cons rfl ?_)) (by repeat (first | exact Has.nil _ | refine Has.cons rfl ?_)) (by repeat (first | exact SubH.nil _ | refine SubH.cons 0 rfl ?_ | refine SubH.cons 1 rfl ?_ | refine SubH.cons 2 rfl ?_ | refine SubH.cons 3 rfl ?_ | refine SubH.cons 4 rfl ?_ | refine SubH.cons 5 rfl ?_ | refine SubH.cons 6 rfl ?_ | refine SubH.cons 7 rfl ?_ | refine SubH.cons 8 rfl ?_ | refine SubH.cons 9 rfl ?_ | refine SubH.cons 10 rfl ?_ | refine SubH.cons 11 rfl ?_ | refine SubH.cons 12 rfl ?_ | refine SubH.cons 13 rfl ?_ | refine SubH.rown ?_))) ?_
  rintro m Δ LL ⟨i, z, nm, p7, c7, ⟨hm, hi6, hnl, hok, hz, hz150⟩, rfl, rfl⟩
  simp only [List.cons_append, List.nil_append]
  refine wp_seq' ?_
  refine wp_seq' ?_
  refine wp_region' ?_
  refine ops_ro' rfl (ro_move rfl) rfl ?_
  refine ops_ro' rfl (ro_move rfl) rfl ?_
  refine ops_ro' rfl (ro_sliceLen Tryd.underlying24 rfl) rfl ?_
  refine ops_ro' rfl (ro_lss rfl rfl rfl) rfl ?_
  refine ops_split rfl rfl rfl (fun hg20 => ?_) (fun hg20 => ?_)
  · replace hg20 := of_decide_eq_true hg20
    refine ops_ro' rfl (ro_move rfl) rfl ?_
    refine ops_ro' rfl (ro_lss rfl rfl rfl) rfl ?_
    refine ops_ro' rfl (ro_pick rfl rfl) rfl ?_
    refine ops_nil ?_
    refine Then_normal ?_
    refine wp_cond' rfl (fun hc23 => ?_) (fun hc23 => ?_)
    · replace hc23 := of_decide_eq_true hc23
      refine wp_skip' ?_
      refine Then_normal ?_
      refine wp_seq' ?_
      refine wp_block' ?_
      refine wp_seq' ?_
      have hi : i < l.length := by omega
      have hln := hV2 _ (List.getElem_mem hi)
      refine wp_know (fun w F s => vw_ptr (Vw.pick (H := [_, V]) 1 rfl hV) s (by omega)) ?_
      rintro ⟨b0, o0, rfl⟩
      refine wp_region' ?_
      refine ops_ro' rfl (ro_move rfl) rfl ?_
      refine ops_ro' rfl (ro_move rfl) rfl ?_
      refine ops_ro' rfl (ro_indexSlice sl24 rfl rfl rfl (by omega)) rfl ?_
      refine ops_ro' rfl (ro_load sc9 rfl (Rd.pick 1 rfl (Rd.elem (j := 0) (vw_rdn hV) Tx.len (List.getElem?_eq_getElem hi) rfl))) rfl ?_
      refine ops_eff' rfl (eff_call Tryd.call16 rfl rfl (by repeat (first | exact Split.nil _ | apply Split.cons 0 rfl | apply Split.cons 1 rfl | apply Split.cons 2 rfl | apply Split.cons 3 rfl | apply Split.cons 4 rfl | apply Split.cons 5 rfl | apply Split.cons 6 rfl | apply Split.cons 7 rfl | apply Split.cons 8 rfl | apply Split.cons 9 rfl | apply Split.cons 10 rfl | apply Split.cons 11 rfl)) (ptRight_spec l[i] (by omega))) rfl ?_
      rintro _ H' ⟨_, ⟨rfl, rfl⟩, hH⟩
      simp only [List.cons_append, List.nil_append, List.eraseIdx_cons_zero, List.eraseIdx_cons_succ, List.set_cons_zero, List.set_cons_succ] at hH
      subst hH
      refine ops_split rfl rfl rfl (fun hg31 => ?_) (fun hg31 => ?_)
      · skip
        have h30 := ptOk_30 hg31
        refine ops_ro' rfl (ro_move rfl) rfl ?_
        refine ops_ro' rfl (ro_move rfl) rfl ?_
        refine ops_ro' rfl (ro_move rfl) rfl ?_
        refine ops_ro' rfl (ro_indexSlice sl24 rfl rfl rfl (by omega)) rfl ?_
        refine ops_ro' rfl (ro_load sc9 rfl (Rd.pick 1 rfl (Rd.elem (j := 0) (vw_rdn hV) Tx.len (List.getElem?_eq_getElem hi) rfl))) rfl ?_
        refine ops_ro' rfl (ro_lenS (t' := 0) Tryd.underlying9 rfl) rfl ?_
        refine ops_ro' rfl (ro_add rfl rfl (wrap_addN (by omega))) rfl ?_
        refine ops_ro' rfl (ro_lss rfl rfl rfl) rfl ?_
        refine ops_ro' rfl (ro_pick rfl rfl) rfl ?_
        refine ops_nil ?_
        refine Then_normal ?_
        refine wp_cond' rfl (fun hc40 => ?_) (fun hc40 => ?_)
        · replace hc40 := of_decide_eq_true hc40
          refine wp_seq' ?_
          refine wp_region' ?_
          refine ops_ro' rfl (ro_move rfl) rfl ?_
          refine ops_ro' rfl (ro_move rfl) rfl ?_
          refine ops_ro' rfl (ro_move rfl) rfl ?_
          refine ops_ro' rfl (ro_indexSlice sl24 rfl rfl rfl (by omega)) rfl ?_
          refine ops_ro' rfl (ro_load sc9 rfl (Rd.pick 1 rfl (Rd.elem (j := 0) (vw_rdn hV) Tx.len (List.getElem?_eq_getElem hi) rfl))) rfl ?_
          refine ops_eff' rfl (eff_lit sl24 rfl (sbld (cs := [_]) [(.string ByteArray.empty)] sl24 (by decide) (by kernel_rfl) rfl) rfl (by decide)) rfl ?_
          rintro _ _ ⟨b46, rfl, rfl⟩
          refine ops_eff' rfl (eff_appF (f := Tx.cs) (l2 := [l[i]]) 1 sl24 (.inl ⟨9, Tryd.underlying24⟩) rfl rfl rfl (by first | exact Src.flatv Tx.len Tx.one (Vw.pick 0 rfl (vw_subF Vw.row Tx.len (Nat.zero_le _) hkl hsh.2)) | exact Src.flatv Tx.len Tx.one (Vw.pick 1 rfl (vw_subF Vw.row Tx.len (Nat.zero_le _) hkl hsh.2)) | exact Src.flatv Tx.len Tx.one (Vw.pick 2 rfl (vw_subF Vw.row Tx.len (Nat.zero_le _) hkl hsh.2)) | exact Src.flatv Tx.len Tx.one (Vw.pick 3 rfl (vw_subF Vw.row Tx.len (Nat.zero_le _) hkl hsh.2)) | exact Src.flatv Tx.len Tx.one (Vw.pick 4 rfl (vw_subF Vw.row Tx.len (Nat.zero_le _) hkl hsh.2)) | exact Src.flatv Tx.len Tx.one (Vw.pick 5 rfl (vw_subF Vw.row Tx.len (Nat.zero_le _) hkl hsh.2)) | exact Src.flatv Tx.len Tx.one (Vw.pick 6 rfl (vw_subF Vw.row Tx.len (Nat.zero_le _) hkl hsh.2)) | exact Src.flatv Tx.len Tx.one (Vw.pick 7 rfl (vw_subF Vw.row Tx.len (Nat.zero_le _) hkl hsh.2)) | exact Src.flatv Tx.len Tx.one (Vw.pick 8 rfl (vw_subF Vw.row Tx.len (Nat.zero_le _) hkl hsh.2)) | exact Src.flatv Tx.len Tx.one (Vw.pick 0 rfl (vw_subF Vw.row Tx.len hkl (Nat.le_refl _) hsh.2)) | exact Src.flatv Tx.len Tx.one (Vw.pick 1 rfl (vw_subF Vw.row Tx.len hkl (Nat.le_refl _) hsh.2)) | exact Src.flatv Tx.len Tx.one (Vw.pick 2 rfl (vw_subF Vw.row Tx.len hkl (Nat.le_refl _) hsh.2)) | exact Src.flatv Tx.len Tx.one (Vw.pick 3 rfl (vw_subF Vw.row Tx.len hkl (Nat.le_refl _) hsh.2)) | exact Src.flatv Tx.len Tx.one (Vw.pick 4 rfl (vw_subF Vw.row Tx.len hkl (Nat.le_refl _) hsh.2)) | exact Src.flatv Tx.len Tx.one (Vw.pick 5 rfl (vw_subF Vw.row Tx.len hkl (Nat.le_refl _) hsh.2)) | exact Src.flatv Tx.len Tx.one (Vw.pick 6 rfl (vw_subF Vw.row Tx.len hkl (Nat.le_refl _) hsh.2)) | exact Src.flatv Tx.len Tx.one (Vw.pick 7 rfl (vw_subF Vw.row Tx.len hkl (Nat.le_refl _) hsh.2)) | exact Src.flatv Tx.len Tx.one (Vw.pick 8 rfl (vw_subF Vw.row Tx.len hkl (Nat.le_refl _) hsh.2)) | exact Src.flatv Tx.len Tx.one (Vw.pick 0 rfl Vw.row) | exact Src.flatv Tx.len Tx.one (Vw.pick 1 rfl Vw.row) | exact Src.flatv Tx.len Tx.one (Vw.pick 2 rfl Vw.row) | exact Src.flatv Tx.len Tx.one (Vw.pick 3 rfl Vw.row) | exact Src.flatv Tx.len Tx.one (Vw.pick 4 rfl Vw.row) | exact Src.flatv Tx.len Tx.one (Vw.pick 5 rfl Vw.row) | exact Src.flatv Tx.len Tx.one (Vw.pick 6 rfl Vw.row) | exact Src.flatv Tx.len Tx.one (Vw.pick 7 rfl Vw.row) | exact Src.flatv Tx.len Tx.one (Vw.pick 8 rfl Vw.row)) (by simp only [List.length_cons, List.length_nil]; omega) (by simp only [List.length_cons, List.length_nil]; omega)) rfl ?_
          rintro _ _ ⟨p47, c47, rfl, hn47, rfl⟩
          simp only [List.set_cons_zero, List.set_cons_succ]
          refine ops_ro' rfl (ro_assign rfl) rfl ?_
          refine ops_nil ?_
          refine Then_normal ?_
          refine wp_region' ?_
          refine ops_ro' rfl (ro_move rfl) rfl ?_
          refine ops_ro' rfl (ro_add rfl rfl (wrap_inc (by omega))) rfl ?_
          refine ops_ro' rfl (ro_move rfl) rfl ?_
          refine ops_ro' rfl (ro_move rfl) rfl ?_
          refine ops_ro' rfl (ro_indexSlice sl24 rfl rfl rfl (by omega)) rfl ?_
          refine ops_ro' rfl (ro_load sc9 rfl (Rd.pick 2 rfl (Rd.elem (j := 0) (vw_rdn hV) Tx.len (List.getElem?_eq_getElem hi) rfl))) rfl ?_
          refine ops_ro' rfl (ro_lenS (t' := 0) Tryd.underlying9 rfl) rfl ?_
          refine ops_ro' rfl (ro_add rfl rfl (wrap_addN (by omega))) rfl ?_
          refine ops_ro' rfl (ro_assign rfl) rfl ?_
          refine ops_nil ?_
          refine InBlock_normal ?_
          refine Then_normal ?_
          refine wp_region' ?_
          refine ops_ro' rfl (ro_move rfl) rfl ?_
          refine ops_ro' rfl (ro_add rfl rfl (wrap_inc (by omega))) rfl ?_
          refine ops_ro' rfl (ro_assign rfl) rfl ?_
          refine ops_nil ?_
          refine Then_normal ?_
          refine back (m - 1) (by omega) (kept ⟨i + 1, z + 1 + l[i].length, nm ++ [l[i]], p47, c47, ⟨by omega, by omega, by simp; omega, ok_snoc hok hg31, by rw [ptLen_snoc, hz], by omega⟩, rfl, rfl⟩ ?_ ?_ ?_)
          · exact (by repeat (first | exact Has.nil _ | refine Has.cons rfl ?_))
          · exact (by repeat (first | exact Has.nil _ | refine Has.cons rfl ?_))
          · exact (SubH.cons 1 rfl (SubH.cons 1 rfl (SubH.nil _)))
        · replace hc40 := of_decide_eq_false hc40
          refine wp_skip' ?_
          refine InBlock_normal ?_
          refine Then_normal ?_
          refine wp_region' ?_
          refine ops_ro' rfl (ro_move rfl) rfl ?_
          refine ops_ro' rfl (ro_add rfl rfl (wrap_inc (by omega))) rfl ?_
          refine ops_ro' rfl (ro_assign rfl) rfl ?_
          refine ops_nil ?_
          refine Then_normal ?_
          refine back (m - 1) (by omega) (kept ⟨i + 1, z, nm, p7, c7, ⟨by omega, by omega, by omega, hok, hz, hz150⟩, rfl, rfl⟩ ?_ ?_ ?_)
          · exact (by repeat (first | exact Has.nil _ | refine Has.cons rfl ?_))
          · exact (by repeat (first | exact Has.nil _ | refine Has.cons rfl ?_))
          · exact SubH.refl _
      · skip
        refine ops_skip' rfl rfl ?_
        refine ops_skip' rfl rfl ?_
        refine ops_skip' rfl rfl ?_
        refine ops_skip' rfl rfl ?_
        refine ops_skip' rfl rfl ?_
        refine ops_skip' rfl rfl ?_
        refine ops_skip' rfl rfl ?_
        refine ops_skip' rfl rfl ?_
        refine ops_ro' rfl (ro_pick rfl rfl) rfl ?_
        refine ops_nil ?_
        refine Then_normal ?_
        refine wp_condF rfl ?_
        refine wp_skip' ?_
        refine InBlock_normal ?_
        refine Then_normal ?_
        refine wp_region' ?_
        refine ops_ro' rfl (ro_move rfl) rfl ?_
        refine ops_ro' rfl (ro_add rfl rfl (wrap_inc (by omega))) rfl ?_
        refine ops_ro' rfl (ro_assign rfl) rfl ?_
        refine ops_nil ?_
        refine Then_normal ?_
        refine back (m - 1) (by omega) (kept ⟨i + 1, z, nm, p7, c7, ⟨by omega, by omega, by omega, hok, hz, hz150⟩, rfl, rfl⟩ ?_ ?_ ?_)
        · exact (by repeat (first | exact Has.nil _ | refine Has.cons rfl ?_))
        · exact (by repeat (first | exact Has.nil _ | refine Has.cons rfl ?_))
        · exact SubH.refl _
    · replace hc23 := of_decide_eq_false hc23
      refine wp_exit' ?_
      refine Then_exit ?_
      refine Then_exit ?_
      refine InBlock_here ?_
      refine Then_normal ?_
      refine wp_seq' ?_
      refine wp_know (fun w F s => row_shp 0 rfl s) ?_
      intro hsh
      have hj1 := (pJoin_len nm).1
      have h300 : ∀ x ∈ nm, x.length ≤ 300 := fun x hx => Nat.le_trans (ptOk_30 (hok x hx)) (by decide)
      refine wp_region' ?_
      refine ops_ro' rfl (ro_move rfl) rfl ?_
      refine ops_eff' rfl (eff_callM (Pre := []) Tryd.call18 rfl rfl (Split.nil _) (ptJoin_spec _ p7 c7 nm (by first | exact (Vw.pick 0 rfl (vw_subF Vw.row Tx.len (Nat.zero_le _) hkl hsh.2)) | exact (Vw.pick 1 rfl (vw_subF Vw.row Tx.len (Nat.zero_le _) hkl hsh.2)) | exact (Vw.pick 2 rfl (vw_subF Vw.row Tx.len (Nat.zero_le _) hkl hsh.2)) | exact (Vw.pick 3 rfl (vw_subF Vw.row Tx.len (Nat.zero_le _) hkl hsh.2)) | exact (Vw.pick 4 rfl (vw_subF Vw.row Tx.len (Nat.zero_le _) hkl hsh.2)) | exact (Vw.pick 5 rfl (vw_subF Vw.row Tx.len (Nat.zero_le _) hkl hsh.2)) | exact (Vw.pick 6 rfl (vw_subF Vw.row Tx.len (Nat.zero_le _) hkl hsh.2)) | exact (Vw.pick 7 rfl (vw_subF Vw.row Tx.len (Nat.zero_le _) hkl hsh.2)) | exact (Vw.pick 8 rfl (vw_subF Vw.row Tx.len (Nat.zero_le _) hkl hsh.2)) | exact (Vw.pick 0 rfl (vw_subF Vw.row Tx.len hkl (Nat.le_refl _) hsh.2)) | exact (Vw.pick 1 rfl (vw_subF Vw.row Tx.len hkl (Nat.le_refl _) hsh.2)) | exact (Vw.pick 2 rfl (vw_subF Vw.row Tx.len hkl (Nat.le_refl _) hsh.2)) | exact (Vw.pick 3 rfl (vw_subF Vw.row Tx.len hkl (Nat.le_refl _) hsh.2)) | exact (Vw.pick 4 rfl (vw_subF Vw.row Tx.len hkl (Nat.le_refl _) hsh.2)) | exact (Vw.pick 5 rfl (vw_subF Vw.row Tx.len hkl (Nat.le_refl _) hsh.2)) | exact (Vw.pick 6 rfl (vw_subF Vw.row Tx.len hkl (Nat.le_refl _) hsh.2)) | exact (Vw.pick 7 rfl (vw_subF Vw.row Tx.len hkl (Nat.le_refl _) hsh.2)) | exact (Vw.pick 8 rfl (vw_subF Vw.row Tx.len hkl (Nat.le_refl _) hsh.2)) | exact Vw.pick 0 rfl Vw.row | exact Vw.pick 1 rfl Vw.row | exact Vw.pick 2 rfl Vw.row | exact Vw.pick 3 rfl Vw.row | exact Vw.pick 4 rfl Vw.row | exact Vw.pick 5 rfl Vw.row | exact Vw.pick 6 rfl Vw.row | exact Vw.pick 7 rfl Vw.row | exact Vw.pick 8 rfl Vw.row | exact Vw.nil _ | exact Vw.empty _ _) hsh.2 (by omega) h300)) rfl ?_
      rintro _ H' ⟨_, ⟨rfl, rfl⟩, hH⟩
      simp only [List.cons_append, List.nil_append, List.eraseIdx_cons_zero, List.eraseIdx_cons_succ, List.set_cons_zero, List.set_cons_succ] at hH
      subst hH
      refine ops_eff' rfl (eff_call Tryd.call11 rfl rfl (by repeat (first | exact Split.nil _ | apply Split.cons 0 rfl | apply Split.cons 1 rfl | apply Split.cons 2 rfl | apply Split.cons 3 rfl | apply Split.cons 4 rfl | apply Split.cons 5 rfl | apply Split.cons 6 rfl | apply Split.cons 7 rfl | apply Split.cons 8 rfl | apply Split.cons 9 rfl | apply Split.cons 10 rfl | apply Split.cons 11 rfl)) (ptSplit_spec V hM (pJoin nm) (by omega))) rfl ?_
      rintro _ H' ⟨_, ⟨_, ⟨p59, c59, rfl, rfl⟩, rfl⟩, hH⟩
      simp only [List.cons_append, List.nil_append, List.eraseIdx_cons_zero, List.eraseIdx_cons_succ, List.set_cons_zero, List.set_cons_succ] at hH
      subst hH
      rw [pSplit_join hok (by omega)]
      refine ops_ro' rfl (ro_move rfl) rfl ?_
      refine ops_ro' rfl (ro_extract rfl rfl) rfl ?_
      refine ops_ro' rfl (ro_extract rfl rfl) rfl ?_
      refine ops_ro' rfl (ro_assign rfl) rfl ?_
      refine ops_ro' rfl (ro_assign rfl) rfl ?_
      refine ops_nil ?_
      refine Then_normal ?_
      refine wp_seq' ?_
      refine wp_seq' ?_
      refine wp_region' ?_
      refine ops_ro' rfl (ro_move rfl) rfl ?_
      refine ops_ro' rfl (ro_neq rfl rfl (decide_eq_false (by omega))) rfl ?_
      refine ops_ro' rfl (ro_move (v := .bool false) rfl) rfl ?_
      refine ops_ro' rfl (ro_move rfl) rfl ?_
      refine ops_ro' rfl (ro_move rfl) rfl ?_
      refine ops_eff' rfl (eff_callM (Pre := []) Tryd.call15 rfl rfl (Split.nil _) (ktexts_spec _ nm nm _ _ _ _ (by first | exact (Vw.pick 0 rfl (vw_subF Vw.row Tx.len (Nat.zero_le _) hkl hsh.2)) | exact (Vw.pick 1 rfl (vw_subF Vw.row Tx.len (Nat.zero_le _) hkl hsh.2)) | exact (Vw.pick 2 rfl (vw_subF Vw.row Tx.len (Nat.zero_le _) hkl hsh.2)) | exact (Vw.pick 3 rfl (vw_subF Vw.row Tx.len (Nat.zero_le _) hkl hsh.2)) | exact (Vw.pick 4 rfl (vw_subF Vw.row Tx.len (Nat.zero_le _) hkl hsh.2)) | exact (Vw.pick 5 rfl (vw_subF Vw.row Tx.len (Nat.zero_le _) hkl hsh.2)) | exact (Vw.pick 6 rfl (vw_subF Vw.row Tx.len (Nat.zero_le _) hkl hsh.2)) | exact (Vw.pick 7 rfl (vw_subF Vw.row Tx.len (Nat.zero_le _) hkl hsh.2)) | exact (Vw.pick 8 rfl (vw_subF Vw.row Tx.len (Nat.zero_le _) hkl hsh.2)) | exact (Vw.pick 0 rfl (vw_subF Vw.row Tx.len hkl (Nat.le_refl _) hsh.2)) | exact (Vw.pick 1 rfl (vw_subF Vw.row Tx.len hkl (Nat.le_refl _) hsh.2)) | exact (Vw.pick 2 rfl (vw_subF Vw.row Tx.len hkl (Nat.le_refl _) hsh.2)) | exact (Vw.pick 3 rfl (vw_subF Vw.row Tx.len hkl (Nat.le_refl _) hsh.2)) | exact (Vw.pick 4 rfl (vw_subF Vw.row Tx.len hkl (Nat.le_refl _) hsh.2)) | exact (Vw.pick 5 rfl (vw_subF Vw.row Tx.len hkl (Nat.le_refl _) hsh.2)) | exact (Vw.pick 6 rfl (vw_subF Vw.row Tx.len hkl (Nat.le_refl _) hsh.2)) | exact (Vw.pick 7 rfl (vw_subF Vw.row Tx.len hkl (Nat.le_refl _) hsh.2)) | exact (Vw.pick 8 rfl (vw_subF Vw.row Tx.len hkl (Nat.le_refl _) hsh.2)) | exact Vw.pick 0 rfl Vw.row | exact Vw.pick 1 rfl Vw.row | exact Vw.pick 2 rfl Vw.row | exact Vw.pick 3 rfl Vw.row | exact Vw.pick 4 rfl Vw.row | exact Vw.pick 5 rfl Vw.row | exact Vw.pick 6 rfl Vw.row | exact Vw.pick 7 rfl Vw.row | exact Vw.pick 8 rfl Vw.row | exact Vw.nil _ | exact Vw.empty _ _) (by first | exact (Vw.pick 0 rfl (vw_subF Vw.row Tx.len (Nat.zero_le _) hkl hsh.2)) | exact (Vw.pick 1 rfl (vw_subF Vw.row Tx.len (Nat.zero_le _) hkl hsh.2)) | exact (Vw.pick 2 rfl (vw_subF Vw.row Tx.len (Nat.zero_le _) hkl hsh.2)) | exact (Vw.pick 3 rfl (vw_subF Vw.row Tx.len (Nat.zero_le _) hkl hsh.2)) | exact (Vw.pick 4 rfl (vw_subF Vw.row Tx.len (Nat.zero_le _) hkl hsh.2)) | exact (Vw.pick 5 rfl (vw_subF Vw.row Tx.len (Nat.zero_le _) hkl hsh.2)) | exact (Vw.pick 6 rfl (vw_subF Vw.row Tx.len (Nat.zero_le _) hkl hsh.2)) | exact (Vw.pick 7 rfl (vw_subF Vw.row Tx.len (Nat.zero_le _) hkl hsh.2)) | exact (Vw.pick 8 rfl (vw_subF Vw.row Tx.len (Nat.zero_le _) hkl hsh.2)) | exact (Vw.pick 0 rfl (vw_subF Vw.row Tx.len hkl (Nat.le_refl _) hsh.2)) | exact (Vw.pick 1 rfl (vw_subF Vw.row Tx.len hkl (Nat.le_refl _) hsh.2)) | exact (Vw.pick 2 rfl (vw_subF Vw.row Tx.len hkl (Nat.le_refl _) hsh.2)) | exact (Vw.pick 3 rfl (vw_subF Vw.row Tx.len hkl (Nat.le_refl _) hsh.2)) | exact (Vw.pick 4 rfl (vw_subF Vw.row Tx.len hkl (Nat.le_refl _) hsh.2)) | exact (Vw.pick 5 rfl (vw_subF Vw.row Tx.len hkl (Nat.le_refl _) hsh.2)) | exact (Vw.pick 6 rfl (vw_subF Vw.row Tx.len hkl (Nat.le_refl _) hsh.2)) | exact (Vw.pick 7 rfl (vw_subF Vw.row Tx.len hkl (Nat.le_refl _) hsh.2)) | exact (Vw.pick 8 rfl (vw_subF Vw.row Tx.len hkl (Nat.le_refl _) hsh.2)) | exact Vw.pick 0 rfl Vw.row | exact Vw.pick 1 rfl Vw.row | exact Vw.pick 2 rfl Vw.row | exact Vw.pick 3 rfl Vw.row | exact Vw.pick 4 rfl Vw.row | exact Vw.pick 5 rfl Vw.row | exact Vw.pick 6 rfl Vw.row | exact Vw.pick 7 rfl Vw.row | exact Vw.pick 8 rfl Vw.row | exact Vw.nil _ | exact Vw.empty _ _) (by omega))) rfl ?_
      rintro _ H' ⟨_, ⟨rfl, rfl⟩, hH⟩
      simp only [List.cons_append, List.nil_append, List.eraseIdx_cons_zero, List.eraseIdx_cons_succ, List.set_cons_zero, List.set_cons_succ] at hH
      subst hH
      rw [decide_eq_true rfl]
      refine ops_ro' rfl (ro_not rfl rfl) rfl ?_
      refine ops_ro' rfl (ro_pick rfl rfl) rfl ?_
      refine ops_nil ?_
      refine Then_normal ?_
      refine wp_condF rfl ?_
      refine wp_skip' ?_
      refine Then_normal ?_
      refine wp_seq' ?_
      refine wp_region' ?_
      refine ops_ro' rfl (ro_move rfl) rfl ?_
      refine ops_eff' rfl (eff_call Tryd.call20 rfl rfl (by repeat (first | exact Split.nil _ | apply Split.cons 0 rfl | apply Split.cons 1 rfl | apply Split.cons 2 rfl | apply Split.cons 3 rfl | apply Split.cons 4 rfl | apply Split.cons 5 rfl | apply Split.cons 6 rfl | apply Split.cons 7 rfl | apply Split.cons 8 rfl | apply Split.cons 9 rfl | apply Split.cons 10 rfl | apply Split.cons 11 rfl)) (kHead bad 33)) rfl ?_
      rintro _ H' ⟨_, ⟨rfl, rfl⟩, hH⟩
      simp only [List.cons_append, List.nil_append, List.eraseIdx_cons_zero, List.eraseIdx_cons_succ, List.set_cons_zero, List.set_cons_succ] at hH
      subst hH
      have hbl : (bad.take 33).length ≤ 33 := by rw [List.length_take]; omega
      generalize bad.take 33 = bad at *
      refine ops_ro' rfl (ro_assign rfl) rfl ?_
      refine ops_nil ?_
      refine Then_normal ?_
      refine wp_cutK 1015 (fun Δ LL => ∃ (a : Int), (0 ≤ a ∧ a ≤ 9223372036854775807) ∧ Δ = [(2, .int .i64 a)] ∧ LL = [row 9 1 (.slice p7 nm.length c7) nm.length (txs nm), V]) (Has.cons (k := 1) rfl (Has.cons (k := 7) rfl (Has.nil _))) ?_ ?_
      · refine wp_seq' ?_
        refine wp_region' ?_
        refine ops_ro' rfl (ro_move rfl) rfl ?_
        refine ops_ro' rfl (ro_lss rfl rfl rfl) rfl ?_
        refine ops_nil ?_
        refine Then_normal ?_
        refine wp_cond' rfl (fun hc73 => ?_) (fun hc73 => ?_)
        · replace hc73 := of_decide_eq_true hc73
          refine wp_region' ?_
          refine ops_ro' rfl (ro_move rfl) rfl ?_
          refine ops_ro' rfl (ro_add rfl rfl (wrap_i64_in (by omega) (by omega))) rfl ?_
          refine ops_ro' rfl (ro_neg rfl (by first | exact wrap_i64_in (by omega) (by omega) | rfl)) rfl ?_
          refine ops_ro' rfl (ro_assign rfl) rfl ?_
          refine ops_nil ?_
          refine Then_normal ?_
          refine over_cut (kept ⟨0 - (at' + 1), (by refine ⟨?_, ?_⟩ <;> omega), rfl, rfl⟩ ?_ ?_ ?_)
          · exact (by repeat (first | exact Has.nil _ | refine Has.cons rfl ?_))
          · exact (by repeat (first | exact Has.nil _ | refine Has.cons rfl ?_))
          · exact (SubH.cons 2 rfl (SubH.cons 1 rfl (SubH.nil _)))
        · replace hc73 := of_decide_eq_false hc73
          refine wp_skip' ?_
          refine Then_normal ?_
          refine over_cut (kept ⟨at', (by refine ⟨?_, ?_⟩ <;> omega), rfl, rfl⟩ ?_ ?_ ?_)
          · exact (by repeat (first | exact Has.nil _ | refine Has.cons rfl ?_))
          · exact (by repeat (first | exact Has.nil _ | refine Has.cons rfl ?_))
          · exact (SubH.cons 2 rfl (SubH.cons 1 rfl (SubH.nil _)))
      · rintro Δ LL ⟨a, ⟨ha, ha2⟩, rfl, rfl⟩
        simp only [List.cons_append, List.nil_append]
        refine wp_seq' ?_
        obtain ⟨k, rfl⟩ := Int.eq_ofNat_of_zero_le ha
        have hkl := Nat.mod_lt k (show 0 < nm.length + 1 by omega)
        refine wp_region' ?_
        refine ops_ro' rfl (ro_move rfl) rfl ?_
        refine ops_ro' rfl (ro_move rfl) rfl ?_
        refine ops_ro' rfl (ro_sliceLen Tryd.underlying24 rfl) rfl ?_
        refine ops_ro' rfl (ro_add rfl rfl (wrap_inc (by omega))) rfl ?_
        refine ops_ro' rfl (ro_rem rfl rfl (by omega) tmodN) rfl ?_
        replace hkl := Nat.le_of_lt_succ hkl
        generalize k % (nm.length + 1) = k at *
        refine ops_ro' rfl (ro_assign rfl) rfl ?_
        refine ops_nil ?_
        refine Then_normal ?_
        refine wp_cutK 1017 (fun Δ LL => ∃ (p93 : Option Addr) (c93 : Nat), Δ = [(13, .slice p93 (nm.take k ++ [bad] ++ nm.drop k).length c93)] ∧ LL = [row 9 1 (.slice p93 (nm.take k ++ [bad] ++ nm.drop k).length c93) (nm.take k ++ [bad] ++ nm.drop k).length (txs (nm.take k ++ [bad] ++ nm.drop k)), V]) (Has.cons (k := 1) rfl (Has.nil _)) ?_ ?_
        · refine wp_draw 12 (by kernel_rfl) (Split.nil _) ?_
          refine any_ro' (i := 1) (by kernel_rfl) rfl rfl (ro_move rfl) rfl (fun _ _ _ h => h) ?_
          refine any_ro' (i := 2) (by kernel_rfl) rfl rfl (ro_move rfl) rfl (fun _ _ _ h => h) ?_
          refine any_ro' (i := 3) (by kernel_rfl) rfl rfl (ro_sliceP sl24 rfl hsh rfl (bnd_of rfl rfl) (by omega) (by omega)) rfl (fun _ _ _ h => h) ?_
          refine any_ro' (i := 5) (by kernel_rfl) rfl rfl (ro_move rfl) rfl (fun _ _ _ h => h) ?_
          refine any_ro' (i := 8) (by kernel_rfl) rfl rfl (ro_move rfl) rfl (fun _ _ _ h => h) ?_
          refine any_ro' (i := 9) (by kernel_rfl) rfl rfl (ro_move rfl) rfl (fun _ _ _ h => h) ?_
          refine any_ro' (i := 10) (by kernel_rfl) rfl rfl (ro_sliceP sl24 rfl hsh (bnd_of rfl rfl) rfl (by omega) (by omega)) rfl (fun _ _ _ h => h) ?_
          refine any_two (i := 0) (j := 6) (by kernel_rfl) ?_ ?_
          · refine at_eff' rfl rfl (eff_lit sl24 rfl (sbld (cs := []) [] sl24 (by decide) (by kernel_rfl) rfl) rfl (by decide)) rfl ?_
            rintro _ _ ⟨b82, rfl, rfl⟩
            refine any_two (i := 4) (j := 6) (by kernel_rfl) ?_ ?_
            · refine at_eff' rfl rfl (eff_appF (f := Tx.cs) (l := []) (l2 := (nm.drop 0).take (k - 0)) 0 sl24 (.inl ⟨9, Tryd.underlying24⟩) rfl rfl rfl (by first | exact Src.flatv Tx.len Tx.one (Vw.pick 0 rfl (vw_subF Vw.row Tx.len (Nat.zero_le _) hkl hsh.2)) | exact Src.flatv Tx.len Tx.one (Vw.pick 1 rfl (vw_subF Vw.row Tx.len (Nat.zero_le _) hkl hsh.2)) | exact Src.flatv Tx.len Tx.one (Vw.pick 2 rfl (vw_subF Vw.row Tx.len (Nat.zero_le _) hkl hsh.2)) | exact Src.flatv Tx.len Tx.one (Vw.pick 3 rfl (vw_subF Vw.row Tx.len (Nat.zero_le _) hkl hsh.2)) | exact Src.flatv Tx.len Tx.one (Vw.pick 4 rfl (vw_subF Vw.row Tx.len (Nat.zero_le _) hkl hsh.2)) | exact Src.flatv Tx.len Tx.one (Vw.pick 5 rfl (vw_subF Vw.row Tx.len (Nat.zero_le _) hkl hsh.2)) | exact Src.flatv Tx.len Tx.one (Vw.pick 6 rfl (vw_subF Vw.row Tx.len (Nat.zero_le _) hkl hsh.2)) | exact Src.flatv Tx.len Tx.one (Vw.pick 7 rfl (vw_subF Vw.row Tx.len (Nat.zero_le _) hkl hsh.2)) | exact Src.flatv Tx.len Tx.one (Vw.pick 8 rfl (vw_subF Vw.row Tx.len (Nat.zero_le _) hkl hsh.2)) | exact Src.flatv Tx.len Tx.one (Vw.pick 0 rfl (vw_subF Vw.row Tx.len hkl (Nat.le_refl _) hsh.2)) | exact Src.flatv Tx.len Tx.one (Vw.pick 1 rfl (vw_subF Vw.row Tx.len hkl (Nat.le_refl _) hsh.2)) | exact Src.flatv Tx.len Tx.one (Vw.pick 2 rfl (vw_subF Vw.row Tx.len hkl (Nat.le_refl _) hsh.2)) | exact Src.flatv Tx.len Tx.one (Vw.pick 3 rfl (vw_subF Vw.row Tx.len hkl (Nat.le_refl _) hsh.2)) | exact Src.flatv Tx.len Tx.one (Vw.pick 4 rfl (vw_subF Vw.row Tx.len hkl (Nat.le_refl _) hsh.2)) | exact Src.flatv Tx.len Tx.one (Vw.pick 5 rfl (vw_subF Vw.row Tx.len hkl (Nat.le_refl _) hsh.2)) | exact Src.flatv Tx.len Tx.one (Vw.pick 6 rfl (vw_subF Vw.row Tx.len hkl (Nat.le_refl _) hsh.2)) | exact Src.flatv Tx.len Tx.one (Vw.pick 7 rfl (vw_subF Vw.row Tx.len hkl (Nat.le_refl _) hsh.2)) | exact Src.flatv Tx.len Tx.one (Vw.pick 8 rfl (vw_subF Vw.row Tx.len hkl (Nat.le_refl _) hsh.2)) | exact Src.flatv Tx.len Tx.one (Vw.pick 0 rfl Vw.row) | exact Src.flatv Tx.len Tx.one (Vw.pick 1 rfl Vw.row) | exact Src.flatv Tx.len Tx.one (Vw.pick 2 rfl Vw.row) | exact Src.flatv Tx.len Tx.one (Vw.pick 3 rfl Vw.row) | exact Src.flatv Tx.len Tx.one (Vw.pick 4 rfl Vw.row) | exact Src.flatv Tx.len Tx.one (Vw.pick 5 rfl Vw.row) | exact Src.flatv Tx.len Tx.one (Vw.pick 6 rfl Vw.row) | exact Src.flatv Tx.len Tx.one (Vw.pick 7 rfl Vw.row) | exact Src.flatv Tx.len Tx.one (Vw.pick 8 rfl Vw.row)) (by simp only [List.length_take, List.length_drop, List.length_nil]; omega) (by simp only [List.length_take, List.length_drop, List.length_nil]; omega)) rfl ?_
              rintro _ _ ⟨p86, c86, rfl, hn86, rfl⟩
              simp only [List.set_cons_zero, List.set_cons_succ, List.nil_append]
              rw [show (nm.drop 0).take (k - 0) = nm.take k from by simp]
              refine any_eff' (i := 6) (by kernel_rfl) rfl rfl (eff_lit sl24 rfl (sbld (cs := txs [bad]) [(.string ByteArray.empty)] sl24 (by decide) (by kernel_rfl) rfl) rfl (by decide)) rfl ?_
              rintro _ _ ⟨b88, rfl, rfl⟩
              refine any_eff' (i := 7) (by kernel_rfl) rfl rfl (eff_appF (f := Tx.cs) (l2 := [bad]) 1 sl24 (.inl ⟨9, Tryd.underlying24⟩) rfl rfl rfl (by first | exact Src.flatv Tx.len Tx.one (Vw.pick 0 rfl (vw_subF Vw.row Tx.len (Nat.zero_le _) hkl hsh.2)) | exact Src.flatv Tx.len Tx.one (Vw.pick 1 rfl (vw_subF Vw.row Tx.len (Nat.zero_le _) hkl hsh.2)) | exact Src.flatv Tx.len Tx.one (Vw.pick 2 rfl (vw_subF Vw.row Tx.len (Nat.zero_le _) hkl hsh.2)) | exact Src.flatv Tx.len Tx.one (Vw.pick 3 rfl (vw_subF Vw.row Tx.len (Nat.zero_le _) hkl hsh.2)) | exact Src.flatv Tx.len Tx.one (Vw.pick 4 rfl (vw_subF Vw.row Tx.len (Nat.zero_le _) hkl hsh.2)) | exact Src.flatv Tx.len Tx.one (Vw.pick 5 rfl (vw_subF Vw.row Tx.len (Nat.zero_le _) hkl hsh.2)) | exact Src.flatv Tx.len Tx.one (Vw.pick 6 rfl (vw_subF Vw.row Tx.len (Nat.zero_le _) hkl hsh.2)) | exact Src.flatv Tx.len Tx.one (Vw.pick 7 rfl (vw_subF Vw.row Tx.len (Nat.zero_le _) hkl hsh.2)) | exact Src.flatv Tx.len Tx.one (Vw.pick 8 rfl (vw_subF Vw.row Tx.len (Nat.zero_le _) hkl hsh.2)) | exact Src.flatv Tx.len Tx.one (Vw.pick 0 rfl (vw_subF Vw.row Tx.len hkl (Nat.le_refl _) hsh.2)) | exact Src.flatv Tx.len Tx.one (Vw.pick 1 rfl (vw_subF Vw.row Tx.len hkl (Nat.le_refl _) hsh.2)) | exact Src.flatv Tx.len Tx.one (Vw.pick 2 rfl (vw_subF Vw.row Tx.len hkl (Nat.le_refl _) hsh.2)) | exact Src.flatv Tx.len Tx.one (Vw.pick 3 rfl (vw_subF Vw.row Tx.len hkl (Nat.le_refl _) hsh.2)) | exact Src.flatv Tx.len Tx.one (Vw.pick 4 rfl (vw_subF Vw.row Tx.len hkl (Nat.le_refl _) hsh.2)) | exact Src.flatv Tx.len Tx.one (Vw.pick 5 rfl (vw_subF Vw.row Tx.len hkl (Nat.le_refl _) hsh.2)) | exact Src.flatv Tx.len Tx.one (Vw.pick 6 rfl (vw_subF Vw.row Tx.len hkl (Nat.le_refl _) hsh.2)) | exact Src.flatv Tx.len Tx.one (Vw.pick 7 rfl (vw_subF Vw.row Tx.len hkl (Nat.le_refl _) hsh.2)) | exact Src.flatv Tx.len Tx.one (Vw.pick 8 rfl (vw_subF Vw.row Tx.len hkl (Nat.le_refl _) hsh.2)) | exact Src.flatv Tx.len Tx.one (Vw.pick 0 rfl Vw.row) | exact Src.flatv Tx.len Tx.one (Vw.pick 1 rfl Vw.row) | exact Src.flatv Tx.len Tx.one (Vw.pick 2 rfl Vw.row) | exact Src.flatv Tx.len Tx.one (Vw.pick 3 rfl Vw.row) | exact Src.flatv Tx.len Tx.one (Vw.pick 4 rfl Vw.row) | exact Src.flatv Tx.len Tx.one (Vw.pick 5 rfl Vw.row) | exact Src.flatv Tx.len Tx.one (Vw.pick 6 rfl Vw.row) | exact Src.flatv Tx.len Tx.one (Vw.pick 7 rfl Vw.row) | exact Src.flatv Tx.len Tx.one (Vw.pick 8 rfl Vw.row)) (by simp only [List.length_take, List.length_cons, List.length_nil]; omega) (by simp only [List.length_take, List.length_cons, List.length_nil]; omega)) rfl ?_
              rintro _ _ ⟨p89, c89, rfl, hn89, rfl⟩
              simp only [List.set_cons_zero, List.set_cons_succ]
              refine any_eff' (i := 11) (by kernel_rfl) rfl rfl (eff_appF (f := Tx.cs) (l2 := (nm.drop k).take (nm.length - k)) 1 sl24 (.inl ⟨9, Tryd.underlying24⟩) rfl rfl rfl (by first | exact Src.flatv Tx.len Tx.one (Vw.pick 0 rfl (vw_subF Vw.row Tx.len (Nat.zero_le _) hkl hsh.2)) | exact Src.flatv Tx.len Tx.one (Vw.pick 1 rfl (vw_subF Vw.row Tx.len (Nat.zero_le _) hkl hsh.2)) | exact Src.flatv Tx.len Tx.one (Vw.pick 2 rfl (vw_subF Vw.row Tx.len (Nat.zero_le _) hkl hsh.2)) | exact Src.flatv Tx.len Tx.one (Vw.pick 3 rfl (vw_subF Vw.row Tx.len (Nat.zero_le _) hkl hsh.2)) | exact Src.flatv Tx.len Tx.one (Vw.pick 4 rfl (vw_subF Vw.row Tx.len (Nat.zero_le _) hkl hsh.2)) | exact Src.flatv Tx.len Tx.one (Vw.pick 5 rfl (vw_subF Vw.row Tx.len (Nat.zero_le _) hkl hsh.2)) | exact Src.flatv Tx.len Tx.one (Vw.pick 6 rfl (vw_subF Vw.row Tx.len (Nat.zero_le _) hkl hsh.2)) | exact Src.flatv Tx.len Tx.one (Vw.pick 7 rfl (vw_subF Vw.row Tx.len (Nat.zero_le _) hkl hsh.2)) | exact Src.flatv Tx.len Tx.one (Vw.pick 8 rfl (vw_subF Vw.row Tx.len (Nat.zero_le _) hkl hsh.2)) | exact Src.flatv Tx.len Tx.one (Vw.pick 0 rfl (vw_subF Vw.row Tx.len hkl (Nat.le_refl _) hsh.2)) | exact Src.flatv Tx.len Tx.one (Vw.pick 1 rfl (vw_subF Vw.row Tx.len hkl (Nat.le_refl _) hsh.2)) | exact Src.flatv Tx.len Tx.one (Vw.pick 2 rfl (vw_subF Vw.row Tx.len hkl (Nat.le_refl _) hsh.2)) | exact Src.flatv Tx.len Tx.one (Vw.pick 3 rfl (vw_subF Vw.row Tx.len hkl (Nat.le_refl _) hsh.2)) | exact Src.flatv Tx.len Tx.one (Vw.pick 4 rfl (vw_subF Vw.row Tx.len hkl (Nat.le_refl _) hsh.2)) | exact Src.flatv Tx.len Tx.one (Vw.pick 5 rfl (vw_subF Vw.row Tx.len hkl (Nat.le_refl _) hsh.2)) | exact Src.flatv Tx.len Tx.one (Vw.pick 6 rfl (vw_subF Vw.row Tx.len hkl (Nat.le_refl _) hsh.2)) | exact Src.flatv Tx.len Tx.one (Vw.pick 7 rfl (vw_subF Vw.row Tx.len hkl (Nat.le_refl _) hsh.2)) | exact Src.flatv Tx.len Tx.one (Vw.pick 8 rfl (vw_subF Vw.row Tx.len hkl (Nat.le_refl _) hsh.2)) | exact Src.flatv Tx.len Tx.one (Vw.pick 0 rfl Vw.row) | exact Src.flatv Tx.len Tx.one (Vw.pick 1 rfl Vw.row) | exact Src.flatv Tx.len Tx.one (Vw.pick 2 rfl Vw.row) | exact Src.flatv Tx.len Tx.one (Vw.pick 3 rfl Vw.row) | exact Src.flatv Tx.len Tx.one (Vw.pick 4 rfl Vw.row) | exact Src.flatv Tx.len Tx.one (Vw.pick 5 rfl Vw.row) | exact Src.flatv Tx.len Tx.one (Vw.pick 6 rfl Vw.row) | exact Src.flatv Tx.len Tx.one (Vw.pick 7 rfl Vw.row) | exact Src.flatv Tx.len Tx.one (Vw.pick 8 rfl Vw.row)) (by simp only [List.length_append, List.length_take, List.length_drop, List.length_cons, List.length_nil]; omega) (by simp only [List.length_append, List.length_take, List.length_drop, List.length_cons, List.length_nil]; omega)) rfl ?_
              rintro _ _ ⟨p93, c93, rfl, hn93, rfl⟩
              simp only [List.set_cons_zero, List.set_cons_succ]
              rw [show (nm.drop k).take (nm.length - k) = nm.drop k from List.take_of_length_le (by simp)]
              refine any_unlock (m' := 13) (L' := []) (by kernel_rfl) unlock ?_
              simp only [List.cons_append, List.nil_append, List.append_nil]
              refine any_ro' (i := 12) (by kernel_rfl) rfl rfl (ro_assign rfl) rfl (fun _ _ _ h => h) ?_
              refine any_doneH (by kernel_rfl) ?_
              refine Then_normal ?_
              refine over_cut (kept ⟨p93, c93, rfl, rfl⟩ ?_ ?_ ?_)
              · exact (by repeat (first | exact Has.nil _ | refine Has.cons rfl ?_))
              · exact (by repeat (first | exact Has.nil _ | refine Has.cons rfl ?_))
              · exact (SubH.cons 1 rfl (SubH.cons 2 rfl (SubH.nil _)))
            · refine at_eff' rfl rfl (eff_lit sl24 rfl (sbld (cs := txs [bad]) [(.string ByteArray.empty)] sl24 (by decide) (by kernel_rfl) rfl) rfl (by decide)) rfl ?_
              rintro _ _ ⟨b88, rfl, rfl⟩
              refine any_eff' (i := 4) (by kernel_rfl) rfl rfl (eff_appF (f := Tx.cs) (l := []) (l2 := (nm.drop 0).take (k - 0)) 1 sl24 (.inl ⟨9, Tryd.underlying24⟩) rfl rfl rfl (by first | exact Src.flatv Tx.len Tx.one (Vw.pick 0 rfl (vw_subF Vw.row Tx.len (Nat.zero_le _) hkl hsh.2)) | exact Src.flatv Tx.len Tx.one (Vw.pick 1 rfl (vw_subF Vw.row Tx.len (Nat.zero_le _) hkl hsh.2)) | exact Src.flatv Tx.len Tx.one (Vw.pick 2 rfl (vw_subF Vw.row Tx.len (Nat.zero_le _) hkl hsh.2)) | exact Src.flatv Tx.len Tx.one (Vw.pick 3 rfl (vw_subF Vw.row Tx.len (Nat.zero_le _) hkl hsh.2)) | exact Src.flatv Tx.len Tx.one (Vw.pick 4 rfl (vw_subF Vw.row Tx.len (Nat.zero_le _) hkl hsh.2)) | exact Src.flatv Tx.len Tx.one (Vw.pick 5 rfl (vw_subF Vw.row Tx.len (Nat.zero_le _) hkl hsh.2)) | exact Src.flatv Tx.len Tx.one (Vw.pick 6 rfl (vw_subF Vw.row Tx.len (Nat.zero_le _) hkl hsh.2)) | exact Src.flatv Tx.len Tx.one (Vw.pick 7 rfl (vw_subF Vw.row Tx.len (Nat.zero_le _) hkl hsh.2)) | exact Src.flatv Tx.len Tx.one (Vw.pick 8 rfl (vw_subF Vw.row Tx.len (Nat.zero_le _) hkl hsh.2)) | exact Src.flatv Tx.len Tx.one (Vw.pick 0 rfl (vw_subF Vw.row Tx.len hkl (Nat.le_refl _) hsh.2)) | exact Src.flatv Tx.len Tx.one (Vw.pick 1 rfl (vw_subF Vw.row Tx.len hkl (Nat.le_refl _) hsh.2)) | exact Src.flatv Tx.len Tx.one (Vw.pick 2 rfl (vw_subF Vw.row Tx.len hkl (Nat.le_refl _) hsh.2)) | exact Src.flatv Tx.len Tx.one (Vw.pick 3 rfl (vw_subF Vw.row Tx.len hkl (Nat.le_refl _) hsh.2)) | exact Src.flatv Tx.len Tx.one (Vw.pick 4 rfl (vw_subF Vw.row Tx.len hkl (Nat.le_refl _) hsh.2)) | exact Src.flatv Tx.len Tx.one (Vw.pick 5 rfl (vw_subF Vw.row Tx.len hkl (Nat.le_refl _) hsh.2)) | exact Src.flatv Tx.len Tx.one (Vw.pick 6 rfl (vw_subF Vw.row Tx.len hkl (Nat.le_refl _) hsh.2)) | exact Src.flatv Tx.len Tx.one (Vw.pick 7 rfl (vw_subF Vw.row Tx.len hkl (Nat.le_refl _) hsh.2)) | exact Src.flatv Tx.len Tx.one (Vw.pick 8 rfl (vw_subF Vw.row Tx.len hkl (Nat.le_refl _) hsh.2)) | exact Src.flatv Tx.len Tx.one (Vw.pick 0 rfl Vw.row) | exact Src.flatv Tx.len Tx.one (Vw.pick 1 rfl Vw.row) | exact Src.flatv Tx.len Tx.one (Vw.pick 2 rfl Vw.row) | exact Src.flatv Tx.len Tx.one (Vw.pick 3 rfl Vw.row) | exact Src.flatv Tx.len Tx.one (Vw.pick 4 rfl Vw.row) | exact Src.flatv Tx.len Tx.one (Vw.pick 5 rfl Vw.row) | exact Src.flatv Tx.len Tx.one (Vw.pick 6 rfl Vw.row) | exact Src.flatv Tx.len Tx.one (Vw.pick 7 rfl Vw.row) | exact Src.flatv Tx.len Tx.one (Vw.pick 8 rfl Vw.row)) (by simp only [List.length_take, List.length_drop, List.length_nil]; omega) (by simp only [List.length_take, List.length_drop, List.length_nil]; omega)) rfl ?_
              rintro _ _ ⟨p86, c86, rfl, hn86, rfl⟩
              simp only [List.set_cons_zero, List.set_cons_succ, List.nil_append]
              rw [show (nm.drop 0).take (k - 0) = nm.take k from by simp]
              refine any_eff' (i := 7) (by kernel_rfl) rfl rfl (eff_appF (f := Tx.cs) (l2 := [bad]) 1 sl24 (.inl ⟨9, Tryd.underlying24⟩) rfl rfl rfl (by first | exact Src.flatv Tx.len Tx.one (Vw.pick 0 rfl (vw_subF Vw.row Tx.len (Nat.zero_le _) hkl hsh.2)) | exact Src.flatv Tx.len Tx.one (Vw.pick 1 rfl (vw_subF Vw.row Tx.len (Nat.zero_le _) hkl hsh.2)) | exact Src.flatv Tx.len Tx.one (Vw.pick 2 rfl (vw_subF Vw.row Tx.len (Nat.zero_le _) hkl hsh.2)) | exact Src.flatv Tx.len Tx.one (Vw.pick 3 rfl (vw_subF Vw.row Tx.len (Nat.zero_le _) hkl hsh.2)) | exact Src.flatv Tx.len Tx.one (Vw.pick 4 rfl (vw_subF Vw.row Tx.len (Nat.zero_le _) hkl hsh.2)) | exact Src.flatv Tx.len Tx.one (Vw.pick 5 rfl (vw_subF Vw.row Tx.len (Nat.zero_le _) hkl hsh.2)) | exact Src.flatv Tx.len Tx.one (Vw.pick 6 rfl (vw_subF Vw.row Tx.len (Nat.zero_le _) hkl hsh.2)) | exact Src.flatv Tx.len Tx.one (Vw.pick 7 rfl (vw_subF Vw.row Tx.len (Nat.zero_le _) hkl hsh.2)) | exact Src.flatv Tx.len Tx.one (Vw.pick 8 rfl (vw_subF Vw.row Tx.len (Nat.zero_le _) hkl hsh.2)) | exact Src.flatv Tx.len Tx.one (Vw.pick 0 rfl (vw_subF Vw.row Tx.len hkl (Nat.le_refl _) hsh.2)) | exact Src.flatv Tx.len Tx.one (Vw.pick 1 rfl (vw_subF Vw.row Tx.len hkl (Nat.le_refl _) hsh.2)) | exact Src.flatv Tx.len Tx.one (Vw.pick 2 rfl (vw_subF Vw.row Tx.len hkl (Nat.le_refl _) hsh.2)) | exact Src.flatv Tx.len Tx.one (Vw.pick 3 rfl (vw_subF Vw.row Tx.len hkl (Nat.le_refl _) hsh.2)) | exact Src.flatv Tx.len Tx.one (Vw.pick 4 rfl (vw_subF Vw.row Tx.len hkl (Nat.le_refl _) hsh.2)) | exact Src.flatv Tx.len Tx.one (Vw.pick 5 rfl (vw_subF Vw.row Tx.len hkl (Nat.le_refl _) hsh.2)) | exact Src.flatv Tx.len Tx.one (Vw.pick 6 rfl (vw_subF Vw.row Tx.len hkl (Nat.le_refl _) hsh.2)) | exact Src.flatv Tx.len Tx.one (Vw.pick 7 rfl (vw_subF Vw.row Tx.len hkl (Nat.le_refl _) hsh.2)) | exact Src.flatv Tx.len Tx.one (Vw.pick 8 rfl (vw_subF Vw.row Tx.len hkl (Nat.le_refl _) hsh.2)) | exact Src.flatv Tx.len Tx.one (Vw.pick 0 rfl Vw.row) | exact Src.flatv Tx.len Tx.one (Vw.pick 1 rfl Vw.row) | exact Src.flatv Tx.len Tx.one (Vw.pick 2 rfl Vw.row) | exact Src.flatv Tx.len Tx.one (Vw.pick 3 rfl Vw.row) | exact Src.flatv Tx.len Tx.one (Vw.pick 4 rfl Vw.row) | exact Src.flatv Tx.len Tx.one (Vw.pick 5 rfl Vw.row) | exact Src.flatv Tx.len Tx.one (Vw.pick 6 rfl Vw.row) | exact Src.flatv Tx.len Tx.one (Vw.pick 7 rfl Vw.row) | exact Src.flatv Tx.len Tx.one (Vw.pick 8 rfl Vw.row)) (by simp only [List.length_take, List.length_cons, List.length_nil]; omega) (by simp only [List.length_take, List.length_cons, List.length_nil]; omega)) rfl ?_
              rintro _ _ ⟨p89, c89, rfl, hn89, rfl⟩
              simp only [List.set_cons_zero, List.set_cons_succ]
              refine any_eff' (i := 11) (by kernel_rfl) rfl rfl (eff_appF (f := Tx.cs) (l2 := (nm.drop k).take (nm.length - k)) 1 sl24 (.inl ⟨9, Tryd.underlying24⟩) rfl rfl rfl (by first | exact Src.flatv Tx.len Tx.one (Vw.pick 0 rfl (vw_subF Vw.row Tx.len (Nat.zero_le _) hkl hsh.2)) | exact Src.flatv Tx.len Tx.one (Vw.pick 1 rfl (vw_subF Vw.row Tx.len (Nat.zero_le _) hkl hsh.2)) | exact Src.flatv Tx.len Tx.one (Vw.pick 2 rfl (vw_subF Vw.row Tx.len (Nat.zero_le _) hkl hsh.2)) | exact Src.flatv Tx.len Tx.one (Vw.pick 3 rfl (vw_subF Vw.row Tx.len (Nat.zero_le _) hkl hsh.2)) | exact Src.flatv Tx.len Tx.one (Vw.pick 4 rfl (vw_subF Vw.row Tx.len (Nat.zero_le _) hkl hsh.2)) | exact Src.flatv Tx.len Tx.one (Vw.pick 5 rfl (vw_subF Vw.row Tx.len (Nat.zero_le _) hkl hsh.2)) | exact Src.flatv Tx.len Tx.one (Vw.pick 6 rfl (vw_subF Vw.row Tx.len (Nat.zero_le _) hkl hsh.2)) | exact Src.flatv Tx.len Tx.one (Vw.pick 7 rfl (vw_subF Vw.row Tx.len (Nat.zero_le _) hkl hsh.2)) | exact Src.flatv Tx.len Tx.one (Vw.pick 8 rfl (vw_subF Vw.row Tx.len (Nat.zero_le _) hkl hsh.2)) | exact Src.flatv Tx.len Tx.one (Vw.pick 0 rfl (vw_subF Vw.row Tx.len hkl (Nat.le_refl _) hsh.2)) | exact Src.flatv Tx.len Tx.one (Vw.pick 1 rfl (vw_subF Vw.row Tx.len hkl (Nat.le_refl _) hsh.2)) | exact Src.flatv Tx.len Tx.one (Vw.pick 2 rfl (vw_subF Vw.row Tx.len hkl (Nat.le_refl _) hsh.2)) | exact Src.flatv Tx.len Tx.one (Vw.pick 3 rfl (vw_subF Vw.row Tx.len hkl (Nat.le_refl _) hsh.2)) | exact Src.flatv Tx.len Tx.one (Vw.pick 4 rfl (vw_subF Vw.row Tx.len hkl (Nat.le_refl _) hsh.2)) | exact Src.flatv Tx.len Tx.one (Vw.pick 5 rfl (vw_subF Vw.row Tx.len hkl (Nat.le_refl _) hsh.2)) | exact Src.flatv Tx.len Tx.one (Vw.pick 6 rfl (vw_subF Vw.row Tx.len hkl (Nat.le_refl _) hsh.2)) | exact Src.flatv Tx.len Tx.one (Vw.pick 7 rfl (vw_subF Vw.row Tx.len hkl (Nat.le_refl _) hsh.2)) | exact Src.flatv Tx.len Tx.one (Vw.pick 8 rfl (vw_subF Vw.row Tx.len hkl (Nat.le_refl _) hsh.2)) | exact Src.flatv Tx.len Tx.one (Vw.pick 0 rfl Vw.row) | exact Src.flatv Tx.len Tx.one (Vw.pick 1 rfl Vw.row) | exact Src.flatv Tx.len Tx.one (Vw.pick 2 rfl Vw.row) | exact Src.flatv Tx.len Tx.one (Vw.pick 3 rfl Vw.row) | exact Src.flatv Tx.len Tx.one (Vw.pick 4 rfl Vw.row) | exact Src.flatv Tx.len Tx.one (Vw.pick 5 rfl Vw.row) | exact Src.flatv Tx.len Tx.one (Vw.pick 6 rfl Vw.row) | exact Src.flatv Tx.len Tx.one (Vw.pick 7 rfl Vw.row) | exact Src.flatv Tx.len Tx.one (Vw.pick 8 rfl Vw.row)) (by simp only [List.length_append, List.length_take, List.length_drop, List.length_cons, List.length_nil]; omega) (by simp only [List.length_append, List.length_take, List.length_drop, List.length_cons, List.length_nil]; omega)) rfl ?_
              rintro _ _ ⟨p93, c93, rfl, hn93, rfl⟩
              simp only [List.set_cons_zero, List.set_cons_succ]
              rw [show (nm.drop k).take (nm.length - k) = nm.drop k from List.take_of_length_le (by simp)]
              refine any_unlock (m' := 13) (L' := []) (by kernel_rfl) unlock ?_
              simp only [List.cons_append, List.nil_append, List.append_nil]
              refine any_ro' (i := 12) (by kernel_rfl) rfl rfl (ro_assign rfl) rfl (fun _ _ _ h => h) ?_
              refine any_doneH (by kernel_rfl) ?_
              refine Then_normal ?_
              refine over_cut (kept ⟨p93, c93, rfl, rfl⟩ ?_ ?_ ?_)
              · exact (by repeat (first | exact Has.nil _ | refine Has.cons rfl ?_))
              · exact (by repeat (first | exact Has.nil _ | refine Has.cons rfl ?_))
              · exact (SubH.cons 1 rfl (SubH.cons 2 rfl (SubH.nil _)))
          · refine at_eff' rfl rfl (eff_lit sl24 rfl (sbld (cs := txs [bad]) [(.string ByteArray.empty)] sl24 (by decide) (by kernel_rfl) rfl) rfl (by decide)) rfl ?_
            rintro _ _ ⟨b88, rfl, rfl⟩
            refine any_eff' (i := 0) (by kernel_rfl) rfl rfl (eff_lit sl24 rfl (sbld (cs := []) [] sl24 (by decide) (by kernel_rfl) rfl) rfl (by decide)) rfl ?_
            rintro _ _ ⟨b82, rfl, rfl⟩
            refine any_eff' (i := 4) (by kernel_rfl) rfl rfl (eff_appF (f := Tx.cs) (l := []) (l2 := (nm.drop 0).take (k - 0)) 0 sl24 (.inl ⟨9, Tryd.underlying24⟩) rfl rfl rfl (by first | exact Src.flatv Tx.len Tx.one (Vw.pick 0 rfl (vw_subF Vw.row Tx.len (Nat.zero_le _) hkl hsh.2)) | exact Src.flatv Tx.len Tx.one (Vw.pick 1 rfl (vw_subF Vw.row Tx.len (Nat.zero_le _) hkl hsh.2)) | exact Src.flatv Tx.len Tx.one (Vw.pick 2 rfl (vw_subF Vw.row Tx.len (Nat.zero_le _) hkl hsh.2)) | exact Src.flatv Tx.len Tx.one (Vw.pick 3 rfl (vw_subF Vw.row Tx.len (Nat.zero_le _) hkl hsh.2)) | exact Src.flatv Tx.len Tx.one (Vw.pick 4 rfl (vw_subF Vw.row Tx.len (Nat.zero_le _) hkl hsh.2)) | exact Src.flatv Tx.len Tx.one (Vw.pick 5 rfl (vw_subF Vw.row Tx.len (Nat.zero_le _) hkl hsh.2)) | exact Src.flatv Tx.len Tx.one (Vw.pick 6 rfl (vw_subF Vw.row Tx.len (Nat.zero_le _) hkl hsh.2)) | exact Src.flatv Tx.len Tx.one (Vw.pick 7 rfl (vw_subF Vw.row Tx.len (Nat.zero_le _) hkl hsh.2)) | exact Src.flatv Tx.len Tx.one (Vw.pick 8 rfl (vw_subF Vw.row Tx.len (Nat.zero_le _) hkl hsh.2)) | exact Src.flatv Tx.len Tx.one (Vw.pick 0 rfl (vw_subF Vw.row Tx.len hkl (Nat.le_refl _) hsh.2)) | exact Src.flatv Tx.len Tx.one (Vw.pick 1 rfl (vw_subF Vw.row Tx.len hkl (Nat.le_refl _) hsh.2)) | exact Src.flatv Tx.len Tx.one (Vw.pick 2 rfl (vw_subF Vw.row Tx.len hkl (Nat.le_refl _) hsh.2)) | exact Src.flatv Tx.len Tx.one (Vw.pick 3 rfl (vw_subF Vw.row Tx.len hkl (Nat.le_refl _) hsh.2)) | exact Src.flatv Tx.len Tx.one (Vw.pick 4 rfl (vw_subF Vw.row Tx.len hkl (Nat.le_refl _) hsh.2)) | exact Src.flatv Tx.len Tx.one (Vw.pick 5 rfl (vw_subF Vw.row Tx.len hkl (Nat.le_refl _) hsh.2)) | exact Src.flatv Tx.len Tx.one (Vw.pick 6 rfl (vw_subF Vw.row Tx.len hkl (Nat.le_refl _) hsh.2)) | exact Src.flatv Tx.len Tx.one (Vw.pick 7 rfl (vw_subF Vw.row Tx.len hkl (Nat.le_refl _) hsh.2)) | exact Src.flatv Tx.len Tx.one (Vw.pick 8 rfl (vw_subF Vw.row Tx.len hkl (Nat.le_refl _) hsh.2)) | exact Src.flatv Tx.len Tx.one (Vw.pick 0 rfl Vw.row) | exact Src.flatv Tx.len Tx.one (Vw.pick 1 rfl Vw.row) | exact Src.flatv Tx.len Tx.one (Vw.pick 2 rfl Vw.row) | exact Src.flatv Tx.len Tx.one (Vw.pick 3 rfl Vw.row) | exact Src.flatv Tx.len Tx.one (Vw.pick 4 rfl Vw.row) | exact Src.flatv Tx.len Tx.one (Vw.pick 5 rfl Vw.row) | exact Src.flatv Tx.len Tx.one (Vw.pick 6 rfl Vw.row) | exact Src.flatv Tx.len Tx.one (Vw.pick 7 rfl Vw.row) | exact Src.flatv Tx.len Tx.one (Vw.pick 8 rfl Vw.row)) (by simp only [List.length_take, List.length_drop, List.length_nil]; omega) (by simp only [List.length_take, List.length_drop, List.length_nil]; omega)) rfl ?_
            rintro _ _ ⟨p86, c86, rfl, hn86, rfl⟩
            simp only [List.set_cons_zero, List.set_cons_succ, List.nil_append]
            rw [show (nm.drop 0).take (k - 0) = nm.take k from by simp]
            refine any_eff' (i := 7) (by kernel_rfl) rfl rfl (eff_appF (f := Tx.cs) (l2 := [bad]) 0 sl24 (.inl ⟨9, Tryd.underlying24⟩) rfl rfl rfl (by first | exact Src.flatv Tx.len Tx.one (Vw.pick 0 rfl (vw_subF Vw.row Tx.len (Nat.zero_le _) hkl hsh.2)) | exact Src.flatv Tx.len Tx.one (Vw.pick 1 rfl (vw_subF Vw.row Tx.len (Nat.zero_le _) hkl hsh.2)) | exact Src.flatv Tx.len Tx.one (Vw.pick 2 rfl (vw_subF Vw.row Tx.len (Nat.zero_le _) hkl hsh.2)) | exact Src.flatv Tx.len Tx.one (Vw.pick 3 rfl (vw_subF Vw.row Tx.len (Nat.zero_le _) hkl hsh.2)) | exact Src.flatv Tx.len Tx.one (Vw.pick 4 rfl (vw_subF Vw.row Tx.len (Nat.zero_le _) hkl hsh.2)) | exact Src.flatv Tx.len Tx.one (Vw.pick 5 rfl (vw_subF Vw.row Tx.len (Nat.zero_le _) hkl hsh.2)) | exact Src.flatv Tx.len Tx.one (Vw.pick 6 rfl (vw_subF Vw.row Tx.len (Nat.zero_le _) hkl hsh.2)) | exact Src.flatv Tx.len Tx.one (Vw.pick 7 rfl (vw_subF Vw.row Tx.len (Nat.zero_le _) hkl hsh.2)) | exact Src.flatv Tx.len Tx.one (Vw.pick 8 rfl (vw_subF Vw.row Tx.len (Nat.zero_le _) hkl hsh.2)) | exact Src.flatv Tx.len Tx.one (Vw.pick 0 rfl (vw_subF Vw.row Tx.len hkl (Nat.le_refl _) hsh.2)) | exact Src.flatv Tx.len Tx.one (Vw.pick 1 rfl (vw_subF Vw.row Tx.len hkl (Nat.le_refl _) hsh.2)) | exact Src.flatv Tx.len Tx.one (Vw.pick 2 rfl (vw_subF Vw.row Tx.len hkl (Nat.le_refl _) hsh.2)) | exact Src.flatv Tx.len Tx.one (Vw.pick 3 rfl (vw_subF Vw.row Tx.len hkl (Nat.le_refl _) hsh.2)) | exact Src.flatv Tx.len Tx.one (Vw.pick 4 rfl (vw_subF Vw.row Tx.len hkl (Nat.le_refl _) hsh.2)) | exact Src.flatv Tx.len Tx.one (Vw.pick 5 rfl (vw_subF Vw.row Tx.len hkl (Nat.le_refl _) hsh.2)) | exact Src.flatv Tx.len Tx.one (Vw.pick 6 rfl (vw_subF Vw.row Tx.len hkl (Nat.le_refl _) hsh.2)) | exact Src.flatv Tx.len Tx.one (Vw.pick 7 rfl (vw_subF Vw.row Tx.len hkl (Nat.le_refl _) hsh.2)) | exact Src.flatv Tx.len Tx.one (Vw.pick 8 rfl (vw_subF Vw.row Tx.len hkl (Nat.le_refl _) hsh.2)) | exact Src.flatv Tx.len Tx.one (Vw.pick 0 rfl Vw.row) | exact Src.flatv Tx.len Tx.one (Vw.pick 1 rfl Vw.row) | exact Src.flatv Tx.len Tx.one (Vw.pick 2 rfl Vw.row) | exact Src.flatv Tx.len Tx.one (Vw.pick 3 rfl Vw.row) | exact Src.flatv Tx.len Tx.one (Vw.pick 4 rfl Vw.row) | exact Src.flatv Tx.len Tx.one (Vw.pick 5 rfl Vw.row) | exact Src.flatv Tx.len Tx.one (Vw.pick 6 rfl Vw.row) | exact Src.flatv Tx.len Tx.one (Vw.pick 7 rfl Vw.row) | exact Src.flatv Tx.len Tx.one (Vw.pick 8 rfl Vw.row)) (by simp only [List.length_take, List.length_cons, List.length_nil]; omega) (by simp only [List.length_take, List.length_cons, List.length_nil]; omega)) rfl ?_
            rintro _ _ ⟨p89, c89, rfl, hn89, rfl⟩
            simp only [List.set_cons_zero, List.set_cons_succ]
            refine any_eff' (i := 11) (by kernel_rfl) rfl rfl (eff_appF (f := Tx.cs) (l2 := (nm.drop k).take (nm.length - k)) 0 sl24 (.inl ⟨9, Tryd.underlying24⟩) rfl rfl rfl (by first | exact Src.flatv Tx.len Tx.one (Vw.pick 0 rfl (vw_subF Vw.row Tx.len (Nat.zero_le _) hkl hsh.2)) | exact Src.flatv Tx.len Tx.one (Vw.pick 1 rfl (vw_subF Vw.row Tx.len (Nat.zero_le _) hkl hsh.2)) | exact Src.flatv Tx.len Tx.one (Vw.pick 2 rfl (vw_subF Vw.row Tx.len (Nat.zero_le _) hkl hsh.2)) | exact Src.flatv Tx.len Tx.one (Vw.pick 3 rfl (vw_subF Vw.row Tx.len (Nat.zero_le _) hkl hsh.2)) | exact Src.flatv Tx.len Tx.one (Vw.pick 4 rfl (vw_subF Vw.row Tx.len (Nat.zero_le _) hkl hsh.2)) | exact Src.flatv Tx.len Tx.one (Vw.pick 5 rfl (vw_subF Vw.row Tx.len (Nat.zero_le _) hkl hsh.2)) | exact Src.flatv Tx.len Tx.one (Vw.pick 6 rfl (vw_subF Vw.row Tx.len (Nat.zero_le _) hkl hsh.2)) | exact Src.flatv Tx.len Tx.one (Vw.pick 7 rfl (vw_subF Vw.row Tx.len (Nat.zero_le _) hkl hsh.2)) | exact Src.flatv Tx.len Tx.one (Vw.pick 8 rfl (vw_subF Vw.row Tx.len (Nat.zero_le _) hkl hsh.2)) | exact Src.flatv Tx.len Tx.one (Vw.pick 0 rfl (vw_subF Vw.row Tx.len hkl (Nat.le_refl _) hsh.2)) | exact Src.flatv Tx.len Tx.one (Vw.pick 1 rfl (vw_subF Vw.row Tx.len hkl (Nat.le_refl _) hsh.2)) | exact Src.flatv Tx.len Tx.one (Vw.pick 2 rfl (vw_subF Vw.row Tx.len hkl (Nat.le_refl _) hsh.2)) | exact Src.flatv Tx.len Tx.one (Vw.pick 3 rfl (vw_subF Vw.row Tx.len hkl (Nat.le_refl _) hsh.2)) | exact Src.flatv Tx.len Tx.one (Vw.pick 4 rfl (vw_subF Vw.row Tx.len hkl (Nat.le_refl _) hsh.2)) | exact Src.flatv Tx.len Tx.one (Vw.pick 5 rfl (vw_subF Vw.row Tx.len hkl (Nat.le_refl _) hsh.2)) | exact Src.flatv Tx.len Tx.one (Vw.pick 6 rfl (vw_subF Vw.row Tx.len hkl (Nat.le_refl _) hsh.2)) | exact Src.flatv Tx.len Tx.one (Vw.pick 7 rfl (vw_subF Vw.row Tx.len hkl (Nat.le_refl _) hsh.2)) | exact Src.flatv Tx.len Tx.one (Vw.pick 8 rfl (vw_subF Vw.row Tx.len hkl (Nat.le_refl _) hsh.2)) | exact Src.flatv Tx.len Tx.one (Vw.pick 0 rfl Vw.row) | exact Src.flatv Tx.len Tx.one (Vw.pick 1 rfl Vw.row) | exact Src.flatv Tx.len Tx.one (Vw.pick 2 rfl Vw.row) | exact Src.flatv Tx.len Tx.one (Vw.pick 3 rfl Vw.row) | exact Src.flatv Tx.len Tx.one (Vw.pick 4 rfl Vw.row) | exact Src.flatv Tx.len Tx.one (Vw.pick 5 rfl Vw.row) | exact Src.flatv Tx.len Tx.one (Vw.pick 6 rfl Vw.row) | exact Src.flatv Tx.len Tx.one (Vw.pick 7 rfl Vw.row) | exact Src.flatv Tx.len Tx.one (Vw.pick 8 rfl Vw.row)) (by simp only [List.length_append, List.length_take, List.length_drop, List.length_cons, List.length_nil]; omega) (by simp only [List.length_append, List.length_take, List.length_drop, List.length_cons, List.length_nil]; omega)) rfl ?_
            rintro _ _ ⟨p93, c93, rfl, hn93, rfl⟩
            simp only [List.set_cons_zero, List.set_cons_succ]
            rw [show (nm.drop k).take (nm.length - k) = nm.drop k from List.take_of_length_le (by simp)]
            refine any_unlock (m' := 13) (L' := []) (by kernel_rfl) unlock ?_
            simp only [List.cons_append, List.nil_append, List.append_nil]
            refine any_ro' (i := 12) (by kernel_rfl) rfl rfl (ro_assign rfl) rfl (fun _ _ _ h => h) ?_
            refine any_doneH (by kernel_rfl) ?_
            refine Then_normal ?_
            refine over_cut (kept ⟨p93, c93, rfl, rfl⟩ ?_ ?_ ?_)
            · exact (by repeat (first | exact Has.nil _ | refine Has.cons rfl ?_))
            · exact (by repeat (first | exact Has.nil _ | refine Has.cons rfl ?_))
            · exact (SubH.cons 0 rfl (SubH.cons 2 rfl (SubH.nil _)))
        · rintro Δ LL ⟨p93, c93, rfl, rfl⟩
          simp only [List.cons_append, List.nil_append]
          refine wp_seq' ?_
          refine wp_know (fun w F s => row_caps 0 rfl s) ?_
          intro hca
          obtain ⟨al, hal⟩ : ∃ z, z = nm.take k ++ [bad] ++ nm.drop k := ⟨_, rfl⟩
          rw [← hal] at hca ⊢
          have hol : al.length ≤ 7 := by rw [hal, cut_len hkl]; omega
          have hpl : ptLen al = ptLen nm + (bad.length + 1) := by rw [hal, ptLen_cut]
          have hjl := (pJoin_len al).1
          have hal3 : ∀ x ∈ al, x.length ≤ 300 := fun x hx => by
            rw [hal] at hx
            rcases mem_cut hx with h | h
            · exact h300 x h
            · rw [h]; omega
          obtain ⟨hw1, hw2⟩ := pSplit_size (pJoin al)
          refine wp_region' ?_
          refine ops_ro' rfl (ro_move rfl) rfl ?_
          refine ops_eff' rfl (eff_callM (Pre := []) Tryd.call18 rfl rfl (Split.nil _) (ptJoin_spec _ _ _ al (by first | exact (Vw.pick 0 rfl (vw_subF Vw.row Tx.len (Nat.zero_le _) hkl hsh.2)) | exact (Vw.pick 1 rfl (vw_subF Vw.row Tx.len (Nat.zero_le _) hkl hsh.2)) | exact (Vw.pick 2 rfl (vw_subF Vw.row Tx.len (Nat.zero_le _) hkl hsh.2)) | exact (Vw.pick 3 rfl (vw_subF Vw.row Tx.len (Nat.zero_le _) hkl hsh.2)) | exact (Vw.pick 4 rfl (vw_subF Vw.row Tx.len (Nat.zero_le _) hkl hsh.2)) | exact (Vw.pick 5 rfl (vw_subF Vw.row Tx.len (Nat.zero_le _) hkl hsh.2)) | exact (Vw.pick 6 rfl (vw_subF Vw.row Tx.len (Nat.zero_le _) hkl hsh.2)) | exact (Vw.pick 7 rfl (vw_subF Vw.row Tx.len (Nat.zero_le _) hkl hsh.2)) | exact (Vw.pick 8 rfl (vw_subF Vw.row Tx.len (Nat.zero_le _) hkl hsh.2)) | exact (Vw.pick 0 rfl (vw_subF Vw.row Tx.len hkl (Nat.le_refl _) hsh.2)) | exact (Vw.pick 1 rfl (vw_subF Vw.row Tx.len hkl (Nat.le_refl _) hsh.2)) | exact (Vw.pick 2 rfl (vw_subF Vw.row Tx.len hkl (Nat.le_refl _) hsh.2)) | exact (Vw.pick 3 rfl (vw_subF Vw.row Tx.len hkl (Nat.le_refl _) hsh.2)) | exact (Vw.pick 4 rfl (vw_subF Vw.row Tx.len hkl (Nat.le_refl _) hsh.2)) | exact (Vw.pick 5 rfl (vw_subF Vw.row Tx.len hkl (Nat.le_refl _) hsh.2)) | exact (Vw.pick 6 rfl (vw_subF Vw.row Tx.len hkl (Nat.le_refl _) hsh.2)) | exact (Vw.pick 7 rfl (vw_subF Vw.row Tx.len hkl (Nat.le_refl _) hsh.2)) | exact (Vw.pick 8 rfl (vw_subF Vw.row Tx.len hkl (Nat.le_refl _) hsh.2)) | exact Vw.pick 0 rfl Vw.row | exact Vw.pick 1 rfl Vw.row | exact Vw.pick 2 rfl Vw.row | exact Vw.pick 3 rfl Vw.row | exact Vw.pick 4 rfl Vw.row | exact Vw.pick 5 rfl Vw.row | exact Vw.pick 6 rfl Vw.row | exact Vw.pick 7 rfl Vw.row | exact Vw.pick 8 rfl Vw.row | exact Vw.nil _ | exact Vw.empty _ _) hca (by omega) hal3)) rfl ?_
          rintro _ H' ⟨_, ⟨rfl, rfl⟩, hH⟩
          simp only [List.cons_append, List.nil_append, List.eraseIdx_cons_zero, List.eraseIdx_cons_succ, List.set_cons_zero, List.set_cons_succ] at hH
          subst hH
          refine ops_eff' rfl (eff_call Tryd.call11 rfl rfl (by repeat (first | exact Split.nil _ | apply Split.cons 0 rfl | apply Split.cons 1 rfl | apply Split.cons 2 rfl | apply Split.cons 3 rfl | apply Split.cons 4 rfl | apply Split.cons 5 rfl | apply Split.cons 6 rfl | apply Split.cons 7 rfl | apply Split.cons 8 rfl | apply Split.cons 9 rfl | apply Split.cons 10 rfl | apply Split.cons 11 rfl)) (ptSplit_spec V hM (pJoin al) (by omega))) rfl ?_
          rintro _ H' ⟨_, ⟨_, ⟨p97, c97, rfl, rfl⟩, rfl⟩, hH⟩
          simp only [List.cons_append, List.nil_append, List.eraseIdx_cons_zero, List.eraseIdx_cons_succ, List.set_cons_zero, List.set_cons_succ] at hH
          subst hH
          refine ops_ro' rfl (ro_move rfl) rfl ?_
          refine ops_ro' rfl (ro_extract rfl rfl) rfl ?_
          refine ops_ro' rfl (ro_extract rfl rfl) rfl ?_
          refine ops_ro' rfl (ro_assign rfl) rfl ?_
          refine ops_ro' rfl (ro_assign rfl) rfl ?_
          refine ops_nil ?_
          refine Then_normal ?_
          refine wp_seq' ?_
          refine wp_seq' ?_
          refine wp_region' ?_
          refine ops_ro' rfl (ro_move rfl) rfl ?_
          refine ops_eff' rfl (eff_call Tryd.call16 rfl rfl (by repeat (first | exact Split.nil _ | apply Split.cons 0 rfl | apply Split.cons 1 rfl | apply Split.cons 2 rfl | apply Split.cons 3 rfl | apply Split.cons 4 rfl | apply Split.cons 5 rfl | apply Split.cons 6 rfl | apply Split.cons 7 rfl | apply Split.cons 8 rfl | apply Split.cons 9 rfl | apply Split.cons 10 rfl | apply Split.cons 11 rfl)) (ptRight_spec bad (by omega))) rfl ?_
          rintro _ H' ⟨_, ⟨rfl, rfl⟩, hH⟩
          simp only [List.cons_append, List.nil_append, List.eraseIdx_cons_zero, List.eraseIdx_cons_succ, List.set_cons_zero, List.set_cons_succ] at hH
          subst hH
          refine ops_nil ?_
          refine Then_normal ?_
          refine wp_cond' rfl (fun hc101 => ?_) (fun hc101 => ?_)
          · skip
            have hoa : ∀ x ∈ al, ptOk x = true := fun x hx => by
              rw [hal] at hx
              rcases mem_cut hx with h | h
              · exact hok x h
              · rw [h]; exact hc101
            rw [pSplit_join hoa (by omega)]
            refine wp_seq' ?_
            refine wp_region' ?_
            refine ops_ro' rfl (ro_move rfl) rfl ?_
            refine ops_ro' rfl (ro_eql rfl rfl (decide_eq_true (by omega))) rfl ?_
            refine ops_ro' rfl (ro_move (v := .bool true) rfl) rfl ?_
            refine ops_ro' rfl (ro_move rfl) rfl ?_
            refine ops_ro' rfl (ro_move rfl) rfl ?_
            refine ops_eff' rfl (eff_callM (Pre := []) Tryd.call15 rfl rfl (Split.nil _) (ktexts_spec _ al al _ _ _ _ (by first | exact (Vw.pick 0 rfl (vw_subF Vw.row Tx.len (Nat.zero_le _) hkl hsh.2)) | exact (Vw.pick 1 rfl (vw_subF Vw.row Tx.len (Nat.zero_le _) hkl hsh.2)) | exact (Vw.pick 2 rfl (vw_subF Vw.row Tx.len (Nat.zero_le _) hkl hsh.2)) | exact (Vw.pick 3 rfl (vw_subF Vw.row Tx.len (Nat.zero_le _) hkl hsh.2)) | exact (Vw.pick 4 rfl (vw_subF Vw.row Tx.len (Nat.zero_le _) hkl hsh.2)) | exact (Vw.pick 5 rfl (vw_subF Vw.row Tx.len (Nat.zero_le _) hkl hsh.2)) | exact (Vw.pick 6 rfl (vw_subF Vw.row Tx.len (Nat.zero_le _) hkl hsh.2)) | exact (Vw.pick 7 rfl (vw_subF Vw.row Tx.len (Nat.zero_le _) hkl hsh.2)) | exact (Vw.pick 8 rfl (vw_subF Vw.row Tx.len (Nat.zero_le _) hkl hsh.2)) | exact (Vw.pick 0 rfl (vw_subF Vw.row Tx.len hkl (Nat.le_refl _) hsh.2)) | exact (Vw.pick 1 rfl (vw_subF Vw.row Tx.len hkl (Nat.le_refl _) hsh.2)) | exact (Vw.pick 2 rfl (vw_subF Vw.row Tx.len hkl (Nat.le_refl _) hsh.2)) | exact (Vw.pick 3 rfl (vw_subF Vw.row Tx.len hkl (Nat.le_refl _) hsh.2)) | exact (Vw.pick 4 rfl (vw_subF Vw.row Tx.len hkl (Nat.le_refl _) hsh.2)) | exact (Vw.pick 5 rfl (vw_subF Vw.row Tx.len hkl (Nat.le_refl _) hsh.2)) | exact (Vw.pick 6 rfl (vw_subF Vw.row Tx.len hkl (Nat.le_refl _) hsh.2)) | exact (Vw.pick 7 rfl (vw_subF Vw.row Tx.len hkl (Nat.le_refl _) hsh.2)) | exact (Vw.pick 8 rfl (vw_subF Vw.row Tx.len hkl (Nat.le_refl _) hsh.2)) | exact Vw.pick 0 rfl Vw.row | exact Vw.pick 1 rfl Vw.row | exact Vw.pick 2 rfl Vw.row | exact Vw.pick 3 rfl Vw.row | exact Vw.pick 4 rfl Vw.row | exact Vw.pick 5 rfl Vw.row | exact Vw.pick 6 rfl Vw.row | exact Vw.pick 7 rfl Vw.row | exact Vw.pick 8 rfl Vw.row | exact Vw.nil _ | exact Vw.empty _ _) (by first | exact (Vw.pick 0 rfl (vw_subF Vw.row Tx.len (Nat.zero_le _) hkl hsh.2)) | exact (Vw.pick 1 rfl (vw_subF Vw.row Tx.len (Nat.zero_le _) hkl hsh.2)) | exact (Vw.pick 2 rfl (vw_subF Vw.row Tx.len (Nat.zero_le _) hkl hsh.2)) | exact (Vw.pick 3 rfl (vw_subF Vw.row Tx.len (Nat.zero_le _) hkl hsh.2)) | exact (Vw.pick 4 rfl (vw_subF Vw.row Tx.len (Nat.zero_le _) hkl hsh.2)) | exact (Vw.pick 5 rfl (vw_subF Vw.row Tx.len (Nat.zero_le _) hkl hsh.2)) | exact (Vw.pick 6 rfl (vw_subF Vw.row Tx.len (Nat.zero_le _) hkl hsh.2)) | exact (Vw.pick 7 rfl (vw_subF Vw.row Tx.len (Nat.zero_le _) hkl hsh.2)) | exact (Vw.pick 8 rfl (vw_subF Vw.row Tx.len (Nat.zero_le _) hkl hsh.2)) | exact (Vw.pick 0 rfl (vw_subF Vw.row Tx.len hkl (Nat.le_refl _) hsh.2)) | exact (Vw.pick 1 rfl (vw_subF Vw.row Tx.len hkl (Nat.le_refl _) hsh.2)) | exact (Vw.pick 2 rfl (vw_subF Vw.row Tx.len hkl (Nat.le_refl _) hsh.2)) | exact (Vw.pick 3 rfl (vw_subF Vw.row Tx.len hkl (Nat.le_refl _) hsh.2)) | exact (Vw.pick 4 rfl (vw_subF Vw.row Tx.len hkl (Nat.le_refl _) hsh.2)) | exact (Vw.pick 5 rfl (vw_subF Vw.row Tx.len hkl (Nat.le_refl _) hsh.2)) | exact (Vw.pick 6 rfl (vw_subF Vw.row Tx.len hkl (Nat.le_refl _) hsh.2)) | exact (Vw.pick 7 rfl (vw_subF Vw.row Tx.len hkl (Nat.le_refl _) hsh.2)) | exact (Vw.pick 8 rfl (vw_subF Vw.row Tx.len hkl (Nat.le_refl _) hsh.2)) | exact Vw.pick 0 rfl Vw.row | exact Vw.pick 1 rfl Vw.row | exact Vw.pick 2 rfl Vw.row | exact Vw.pick 3 rfl Vw.row | exact Vw.pick 4 rfl Vw.row | exact Vw.pick 5 rfl Vw.row | exact Vw.pick 6 rfl Vw.row | exact Vw.pick 7 rfl Vw.row | exact Vw.pick 8 rfl Vw.row | exact Vw.nil _ | exact Vw.empty _ _) (by omega))) rfl ?_
            rintro _ H' ⟨_, ⟨rfl, rfl⟩, hH⟩
            simp only [List.cons_append, List.nil_append, List.eraseIdx_cons_zero, List.eraseIdx_cons_succ, List.set_cons_zero, List.set_cons_succ] at hH
            subst hH
            rw [decide_eq_true rfl]
            refine ops_ro' rfl (ro_pick rfl rfl) rfl ?_
            refine ops_ro' rfl (ro_move (v := .bool true) rfl) rfl ?_
            refine ops_eff' rfl (eff_call Tryd.call19 rfl rfl (by repeat (first | exact Split.nil _ | apply Split.cons 0 rfl | apply Split.cons 1 rfl | apply Split.cons 2 rfl | apply Split.cons 3 rfl | apply Split.cons 4 rfl | apply Split.cons 5 rfl | apply Split.cons 6 rfl | apply Split.cons 7 rfl | apply Split.cons 8 rfl | apply Split.cons 9 rfl | apply Split.cons 10 rfl | apply Split.cons 11 rfl)) (known13_spec V hM)) rfl ?_
            rintro _ H' ⟨_, ⟨rfl, rfl⟩, hH⟩
            simp only [List.cons_append, List.nil_append, List.eraseIdx_cons_zero, List.eraseIdx_cons_succ, List.set_cons_zero, List.set_cons_succ] at hH
            subst hH
            refine ops_ro' rfl (ro_pick rfl rfl) rfl ?_
            refine ops_ro' rfl (ro_assign rfl) rfl ?_
            refine ops_nil ?_
            refine Then_normal ?_
            refine wp_ret' ?_
            refine Then_ret ?_
            refine' doneS_ret (res1 rfl rfl) ?_ ?_
            rotate_left 1
            exact ⟨rfl, rfl⟩
            exact (SubH.cons 0 rfl (SubH.nil _))
          · skip
            refine wp_skip' ?_
            refine Then_normal ?_
            refine wp_seq' ?_
            refine wp_region' ?_
            refine ops_ro' rfl (ro_move rfl) rfl ?_
            refine ops_ro' rfl (ro_neq rfl rfl rfl) rfl ?_
            refine ops_split rfl rfl rfl (fun hg114 => ?_) (fun hg114 => ?_)
            · replace hg114 := of_decide_eq_true hg114
              refine ops_skip' rfl rfl ?_
              refine ops_skip' rfl rfl ?_
              refine ops_skip' rfl rfl ?_
              have hne : (pSplit (pJoin al)).1 ≠ al := fun h => absurd (pSplit_right (pJoin al) bad (by rw [h, hal]; simp)) (by rw [hc101]; decide)
              try rw [decide_eq_false hne]
              refine ops_skip' rfl rfl ?_
              refine ops_ro' rfl (ro_pick rfl rfl) rfl ?_
              refine ops_ro' rfl (ro_move (v := .bool true) rfl) rfl ?_
              refine ops_eff' rfl (eff_call Tryd.call19 rfl rfl (by repeat (first | exact Split.nil _ | apply Split.cons 0 rfl | apply Split.cons 1 rfl | apply Split.cons 2 rfl | apply Split.cons 3 rfl | apply Split.cons 4 rfl | apply Split.cons 5 rfl | apply Split.cons 6 rfl | apply Split.cons 7 rfl | apply Split.cons 8 rfl | apply Split.cons 9 rfl | apply Split.cons 10 rfl | apply Split.cons 11 rfl)) (known13_spec V hM)) rfl ?_
              rintro _ H' ⟨_, ⟨rfl, rfl⟩, hH⟩
              simp only [List.cons_append, List.nil_append, List.eraseIdx_cons_zero, List.eraseIdx_cons_succ, List.set_cons_zero, List.set_cons_succ] at hH
              subst hH
              refine ops_ro' rfl (ro_pick rfl rfl) rfl ?_
              refine ops_ro' rfl (ro_assign rfl) rfl ?_
              refine ops_nil ?_
              refine Then_normal ?_
              refine wp_ret' ?_
              refine' doneS_ret (res1 rfl rfl) ?_ ?_
              rotate_left 1
              exact ⟨rfl, rfl⟩
              exact (SubH.cons 0 rfl (SubH.nil _))
            · replace hg114 := of_decide_eq_false hg114
              refine ops_ro' rfl (ro_move rfl) rfl ?_
              refine ops_ro' rfl (ro_move rfl) rfl ?_
              refine ops_eff' rfl (eff_callM (Pre := []) Tryd.call15 rfl rfl (Split.nil _) (ktexts_spec _ (pSplit (pJoin al)).1 al _ _ _ _ (by first | exact (Vw.pick 0 rfl (vw_subF Vw.row Tx.len (Nat.zero_le _) hkl hsh.2)) | exact (Vw.pick 1 rfl (vw_subF Vw.row Tx.len (Nat.zero_le _) hkl hsh.2)) | exact (Vw.pick 2 rfl (vw_subF Vw.row Tx.len (Nat.zero_le _) hkl hsh.2)) | exact (Vw.pick 3 rfl (vw_subF Vw.row Tx.len (Nat.zero_le _) hkl hsh.2)) | exact (Vw.pick 4 rfl (vw_subF Vw.row Tx.len (Nat.zero_le _) hkl hsh.2)) | exact (Vw.pick 5 rfl (vw_subF Vw.row Tx.len (Nat.zero_le _) hkl hsh.2)) | exact (Vw.pick 6 rfl (vw_subF Vw.row Tx.len (Nat.zero_le _) hkl hsh.2)) | exact (Vw.pick 7 rfl (vw_subF Vw.row Tx.len (Nat.zero_le _) hkl hsh.2)) | exact (Vw.pick 8 rfl (vw_subF Vw.row Tx.len (Nat.zero_le _) hkl hsh.2)) | exact (Vw.pick 0 rfl (vw_subF Vw.row Tx.len hkl (Nat.le_refl _) hsh.2)) | exact (Vw.pick 1 rfl (vw_subF Vw.row Tx.len hkl (Nat.le_refl _) hsh.2)) | exact (Vw.pick 2 rfl (vw_subF Vw.row Tx.len hkl (Nat.le_refl _) hsh.2)) | exact (Vw.pick 3 rfl (vw_subF Vw.row Tx.len hkl (Nat.le_refl _) hsh.2)) | exact (Vw.pick 4 rfl (vw_subF Vw.row Tx.len hkl (Nat.le_refl _) hsh.2)) | exact (Vw.pick 5 rfl (vw_subF Vw.row Tx.len hkl (Nat.le_refl _) hsh.2)) | exact (Vw.pick 6 rfl (vw_subF Vw.row Tx.len hkl (Nat.le_refl _) hsh.2)) | exact (Vw.pick 7 rfl (vw_subF Vw.row Tx.len hkl (Nat.le_refl _) hsh.2)) | exact (Vw.pick 8 rfl (vw_subF Vw.row Tx.len hkl (Nat.le_refl _) hsh.2)) | exact Vw.pick 0 rfl Vw.row | exact Vw.pick 1 rfl Vw.row | exact Vw.pick 2 rfl Vw.row | exact Vw.pick 3 rfl Vw.row | exact Vw.pick 4 rfl Vw.row | exact Vw.pick 5 rfl Vw.row | exact Vw.pick 6 rfl Vw.row | exact Vw.pick 7 rfl Vw.row | exact Vw.pick 8 rfl Vw.row | exact Vw.nil _ | exact Vw.empty _ _) (by first | exact (Vw.pick 0 rfl (vw_subF Vw.row Tx.len (Nat.zero_le _) hkl hsh.2)) | exact (Vw.pick 1 rfl (vw_subF Vw.row Tx.len (Nat.zero_le _) hkl hsh.2)) | exact (Vw.pick 2 rfl (vw_subF Vw.row Tx.len (Nat.zero_le _) hkl hsh.2)) | exact (Vw.pick 3 rfl (vw_subF Vw.row Tx.len (Nat.zero_le _) hkl hsh.2)) | exact (Vw.pick 4 rfl (vw_subF Vw.row Tx.len (Nat.zero_le _) hkl hsh.2)) | exact (Vw.pick 5 rfl (vw_subF Vw.row Tx.len (Nat.zero_le _) hkl hsh.2)) | exact (Vw.pick 6 rfl (vw_subF Vw.row Tx.len (Nat.zero_le _) hkl hsh.2)) | exact (Vw.pick 7 rfl (vw_subF Vw.row Tx.len (Nat.zero_le _) hkl hsh.2)) | exact (Vw.pick 8 rfl (vw_subF Vw.row Tx.len (Nat.zero_le _) hkl hsh.2)) | exact (Vw.pick 0 rfl (vw_subF Vw.row Tx.len hkl (Nat.le_refl _) hsh.2)) | exact (Vw.pick 1 rfl (vw_subF Vw.row Tx.len hkl (Nat.le_refl _) hsh.2)) | exact (Vw.pick 2 rfl (vw_subF Vw.row Tx.len hkl (Nat.le_refl _) hsh.2)) | exact (Vw.pick 3 rfl (vw_subF Vw.row Tx.len hkl (Nat.le_refl _) hsh.2)) | exact (Vw.pick 4 rfl (vw_subF Vw.row Tx.len hkl (Nat.le_refl _) hsh.2)) | exact (Vw.pick 5 rfl (vw_subF Vw.row Tx.len hkl (Nat.le_refl _) hsh.2)) | exact (Vw.pick 6 rfl (vw_subF Vw.row Tx.len hkl (Nat.le_refl _) hsh.2)) | exact (Vw.pick 7 rfl (vw_subF Vw.row Tx.len hkl (Nat.le_refl _) hsh.2)) | exact (Vw.pick 8 rfl (vw_subF Vw.row Tx.len hkl (Nat.le_refl _) hsh.2)) | exact Vw.pick 0 rfl Vw.row | exact Vw.pick 1 rfl Vw.row | exact Vw.pick 2 rfl Vw.row | exact Vw.pick 3 rfl Vw.row | exact Vw.pick 4 rfl Vw.row | exact Vw.pick 5 rfl Vw.row | exact Vw.pick 6 rfl Vw.row | exact Vw.pick 7 rfl Vw.row | exact Vw.pick 8 rfl Vw.row | exact Vw.nil _ | exact Vw.empty _ _) (by omega))) rfl ?_
              rintro _ H' ⟨_, ⟨rfl, rfl⟩, hH⟩
              simp only [List.cons_append, List.nil_append, List.eraseIdx_cons_zero, List.eraseIdx_cons_succ, List.set_cons_zero, List.set_cons_succ] at hH
              subst hH
              have hne : (pSplit (pJoin al)).1 ≠ al := fun h => absurd (pSplit_right (pJoin al) bad (by rw [h, hal]; simp)) (by rw [hc101]; decide)
              try rw [decide_eq_false hne]
              refine ops_ro' rfl (ro_not rfl rfl) rfl ?_
              refine ops_ro' rfl (ro_pick rfl rfl) rfl ?_
              refine ops_ro' rfl (ro_move (v := .bool true) rfl) rfl ?_
              refine ops_eff' rfl (eff_call Tryd.call19 rfl rfl (by repeat (first | exact Split.nil _ | apply Split.cons 0 rfl | apply Split.cons 1 rfl | apply Split.cons 2 rfl | apply Split.cons 3 rfl | apply Split.cons 4 rfl | apply Split.cons 5 rfl | apply Split.cons 6 rfl | apply Split.cons 7 rfl | apply Split.cons 8 rfl | apply Split.cons 9 rfl | apply Split.cons 10 rfl | apply Split.cons 11 rfl)) (known13_spec V hM)) rfl ?_
              rintro _ H' ⟨_, ⟨rfl, rfl⟩, hH⟩
              simp only [List.cons_append, List.nil_append, List.eraseIdx_cons_zero, List.eraseIdx_cons_succ, List.set_cons_zero, List.set_cons_succ] at hH
              subst hH
              refine ops_ro' rfl (ro_pick rfl rfl) rfl ?_
              refine ops_ro' rfl (ro_assign rfl) rfl ?_
              refine ops_nil ?_
              refine Then_normal ?_
              refine wp_ret' ?_
              refine' doneS_ret (res1 rfl rfl) ?_ ?_
              rotate_left 1
              exact ⟨rfl, rfl⟩
              exact (SubH.cons 0 rfl (SubH.nil _))
  · replace hg20 := of_decide_eq_false hg20
    refine ops_skip' rfl rfl ?_
    refine ops_skip' rfl rfl ?_
    refine ops_ro' rfl (ro_pick rfl rfl) rfl ?_
    refine ops_nil ?_
    refine Then_normal ?_
    refine wp_condF rfl ?_
    refine wp_exit' ?_
    refine Then_exit ?_
    refine Then_exit ?_
    refine InBlock_here ?_
    refine Then_normal ?_
    refine wp_seq' ?_
    refine wp_know (fun w F s => row_shp 0 rfl s) ?_
    intro hsh
    have hj1 := (pJoin_len nm).1
    have h300 : ∀ x ∈ nm, x.length ≤ 300 := fun x hx => Nat.le_trans (ptOk_30 (hok x hx)) (by decide)
    refine wp_region' ?_
    refine ops_ro' rfl (ro_move rfl) rfl ?_
    refine ops_eff' rfl (eff_callM (Pre := []) Tryd.call18 rfl rfl (Split.nil _) (ptJoin_spec _ p7 c7 nm (by first | exact (Vw.pick 0 rfl (vw_subF Vw.row Tx.len (Nat.zero_le _) hkl hsh.2)) | exact (Vw.pick 1 rfl (vw_subF Vw.row Tx.len (Nat.zero_le _) hkl hsh.2)) | exact (Vw.pick 2 rfl (vw_subF Vw.row Tx.len (Nat.zero_le _) hkl hsh.2)) | exact (Vw.pick 3 rfl (vw_subF Vw.row Tx.len (Nat.zero_le _) hkl hsh.2)) | exact (Vw.pick 4 rfl (vw_subF Vw.row Tx.len (Nat.zero_le _) hkl hsh.2)) | exact (Vw.pick 5 rfl (vw_subF Vw.row Tx.len (Nat.zero_le _) hkl hsh.2)) | exact (Vw.pick 6 rfl (vw_subF Vw.row Tx.len (Nat.zero_le _) hkl hsh.2)) | exact (Vw.pick 7 rfl (vw_subF Vw.row Tx.len (Nat.zero_le _) hkl hsh.2)) | exact (Vw.pick 8 rfl (vw_subF Vw.row Tx.len (Nat.zero_le _) hkl hsh.2)) | exact (Vw.pick 0 rfl (vw_subF Vw.row Tx.len hkl (Nat.le_refl _) hsh.2)) | exact (Vw.pick 1 rfl (vw_subF Vw.row Tx.len hkl (Nat.le_refl _) hsh.2)) | exact (Vw.pick 2 rfl (vw_subF Vw.row Tx.len hkl (Nat.le_refl _) hsh.2)) | exact (Vw.pick 3 rfl (vw_subF Vw.row Tx.len hkl (Nat.le_refl _) hsh.2)) | exact (Vw.pick 4 rfl (vw_subF Vw.row Tx.len hkl (Nat.le_refl _) hsh.2)) | exact (Vw.pick 5 rfl (vw_subF Vw.row Tx.len hkl (Nat.le_refl _) hsh.2)) | exact (Vw.pick 6 rfl (vw_subF Vw.row Tx.len hkl (Nat.le_refl _) hsh.2)) | exact (Vw.pick 7 rfl (vw_subF Vw.row Tx.len hkl (Nat.le_refl _) hsh.2)) | exact (Vw.pick 8 rfl (vw_subF Vw.row Tx.len hkl (Nat.le_refl _) hsh.2)) | exact Vw.pick 0 rfl Vw.row | exact Vw.pick 1 rfl Vw.row | exact Vw.pick 2 rfl Vw.row | exact Vw.pick 3 rfl Vw.row | exact Vw.pick 4 rfl Vw.row | exact Vw.pick 5 rfl Vw.row | exact Vw.pick 6 rfl Vw.row | exact Vw.pick 7 rfl Vw.row | exact Vw.pick 8 rfl Vw.row | exact Vw.nil _ | exact Vw.empty _ _) hsh.2 (by omega) h300)) rfl ?_
    rintro _ H' ⟨_, ⟨rfl, rfl⟩, hH⟩
    simp only [List.cons_append, List.nil_append, List.eraseIdx_cons_zero, List.eraseIdx_cons_succ, List.set_cons_zero, List.set_cons_succ] at hH
    subst hH
    refine ops_eff' rfl (eff_call Tryd.call11 rfl rfl (by repeat (first | exact Split.nil _ | apply Split.cons 0 rfl | apply Split.cons 1 rfl | apply Split.cons 2 rfl | apply Split.cons 3 rfl | apply Split.cons 4 rfl | apply Split.cons 5 rfl | apply Split.cons 6 rfl | apply Split.cons 7 rfl | apply Split.cons 8 rfl | apply Split.cons 9 rfl | apply Split.cons 10 rfl | apply Split.cons 11 rfl)) (ptSplit_spec V hM (pJoin nm) (by omega))) rfl ?_
    rintro _ H' ⟨_, ⟨_, ⟨p59, c59, rfl, rfl⟩, rfl⟩, hH⟩
    simp only [List.cons_append, List.nil_append, List.eraseIdx_cons_zero, List.eraseIdx_cons_succ, List.set_cons_zero, List.set_cons_succ] at hH
    subst hH
    rw [pSplit_join hok (by omega)]
    refine ops_ro' rfl (ro_move rfl) rfl ?_
    refine ops_ro' rfl (ro_extract rfl rfl) rfl ?_
    refine ops_ro' rfl (ro_extract rfl rfl) rfl ?_
    refine ops_ro' rfl (ro_assign rfl) rfl ?_
    refine ops_ro' rfl (ro_assign rfl) rfl ?_
    refine ops_nil ?_
    refine Then_normal ?_
    refine wp_seq' ?_
    refine wp_seq' ?_
    refine wp_region' ?_
    refine ops_ro' rfl (ro_move rfl) rfl ?_
    refine ops_ro' rfl (ro_neq rfl rfl (decide_eq_false (by omega))) rfl ?_
    refine ops_ro' rfl (ro_move (v := .bool false) rfl) rfl ?_
    refine ops_ro' rfl (ro_move rfl) rfl ?_
    refine ops_ro' rfl (ro_move rfl) rfl ?_
    refine ops_eff' rfl (eff_callM (Pre := []) Tryd.call15 rfl rfl (Split.nil _) (ktexts_spec _ nm nm _ _ _ _ (by first | exact (Vw.pick 0 rfl (vw_subF Vw.row Tx.len (Nat.zero_le _) hkl hsh.2)) | exact (Vw.pick 1 rfl (vw_subF Vw.row Tx.len (Nat.zero_le _) hkl hsh.2)) | exact (Vw.pick 2 rfl (vw_subF Vw.row Tx.len (Nat.zero_le _) hkl hsh.2)) | exact (Vw.pick 3 rfl (vw_subF Vw.row Tx.len (Nat.zero_le _) hkl hsh.2)) | exact (Vw.pick 4 rfl (vw_subF Vw.row Tx.len (Nat.zero_le _) hkl hsh.2)) | exact (Vw.pick 5 rfl (vw_subF Vw.row Tx.len (Nat.zero_le _) hkl hsh.2)) | exact (Vw.pick 6 rfl (vw_subF Vw.row Tx.len (Nat.zero_le _) hkl hsh.2)) | exact (Vw.pick 7 rfl (vw_subF Vw.row Tx.len (Nat.zero_le _) hkl hsh.2)) | exact (Vw.pick 8 rfl (vw_subF Vw.row Tx.len (Nat.zero_le _) hkl hsh.2)) | exact (Vw.pick 0 rfl (vw_subF Vw.row Tx.len hkl (Nat.le_refl _) hsh.2)) | exact (Vw.pick 1 rfl (vw_subF Vw.row Tx.len hkl (Nat.le_refl _) hsh.2)) | exact (Vw.pick 2 rfl (vw_subF Vw.row Tx.len hkl (Nat.le_refl _) hsh.2)) | exact (Vw.pick 3 rfl (vw_subF Vw.row Tx.len hkl (Nat.le_refl _) hsh.2)) | exact (Vw.pick 4 rfl (vw_subF Vw.row Tx.len hkl (Nat.le_refl _) hsh.2)) | exact (Vw.pick 5 rfl (vw_subF Vw.row Tx.len hkl (Nat.le_refl _) hsh.2)) | exact (Vw.pick 6 rfl (vw_subF Vw.row Tx.len hkl (Nat.le_refl _) hsh.2)) | exact (Vw.pick 7 rfl (vw_subF Vw.row Tx.len hkl (Nat.le_refl _) hsh.2)) | exact (Vw.pick 8 rfl (vw_subF Vw.row Tx.len hkl (Nat.le_refl _) hsh.2)) | exact Vw.pick 0 rfl Vw.row | exact Vw.pick 1 rfl Vw.row | exact Vw.pick 2 rfl Vw.row | exact Vw.pick 3 rfl Vw.row | exact Vw.pick 4 rfl Vw.row | exact Vw.pick 5 rfl Vw.row | exact Vw.pick 6 rfl Vw.row | exact Vw.pick 7 rfl Vw.row | exact Vw.pick 8 rfl Vw.row | exact Vw.nil _ | exact Vw.empty _ _) (by first | exact (Vw.pick 0 rfl (vw_subF Vw.row Tx.len (Nat.zero_le _) hkl hsh.2)) | exact (Vw.pick 1 rfl (vw_subF Vw.row Tx.len (Nat.zero_le _) hkl hsh.2)) | exact (Vw.pick 2 rfl (vw_subF Vw.row Tx.len (Nat.zero_le _) hkl hsh.2)) | exact (Vw.pick 3 rfl (vw_subF Vw.row Tx.len (Nat.zero_le _) hkl hsh.2)) | exact (Vw.pick 4 rfl (vw_subF Vw.row Tx.len (Nat.zero_le _) hkl hsh.2)) | exact (Vw.pick 5 rfl (vw_subF Vw.row Tx.len (Nat.zero_le _) hkl hsh.2)) | exact (Vw.pick 6 rfl (vw_subF Vw.row Tx.len (Nat.zero_le _) hkl hsh.2)) | exact (Vw.pick 7 rfl (vw_subF Vw.row Tx.len (Nat.zero_le _) hkl hsh.2)) | exact (Vw.pick 8 rfl (vw_subF Vw.row Tx.len (Nat.zero_le _) hkl hsh.2)) | exact (Vw.pick 0 rfl (vw_subF Vw.row Tx.len hkl (Nat.le_refl _) hsh.2)) | exact (Vw.pick 1 rfl (vw_subF Vw.row Tx.len hkl (Nat.le_refl _) hsh.2)) | exact (Vw.pick 2 rfl (vw_subF Vw.row Tx.len hkl (Nat.le_refl _) hsh.2)) | exact (Vw.pick 3 rfl (vw_subF Vw.row Tx.len hkl (Nat.le_refl _) hsh.2)) | exact (Vw.pick 4 rfl (vw_subF Vw.row Tx.len hkl (Nat.le_refl _) hsh.2)) | exact (Vw.pick 5 rfl (vw_subF Vw.row Tx.len hkl (Nat.le_refl _) hsh.2)) | exact (Vw.pick 6 rfl (vw_subF Vw.row Tx.len hkl (Nat.le_refl _) hsh.2)) | exact (Vw.pick 7 rfl (vw_subF Vw.row Tx.len hkl (Nat.le_refl _) hsh.2)) | exact (Vw.pick 8 rfl (vw_subF Vw.row Tx.len hkl (Nat.le_refl _) hsh.2)) | exact Vw.pick 0 rfl Vw.row | exact Vw.pick 1 rfl Vw.row | exact Vw.pick 2 rfl Vw.row | exact Vw.pick 3 rfl Vw.row | exact Vw.pick 4 rfl Vw.row | exact Vw.pick 5 rfl Vw.row | exact Vw.pick 6 rfl Vw.row | exact Vw.pick 7 rfl Vw.row | exact Vw.pick 8 rfl Vw.row | exact Vw.nil _ | exact Vw.empty _ _) (by omega))) rfl ?_
    rintro _ H' ⟨_, ⟨rfl, rfl⟩, hH⟩
    simp only [List.cons_append, List.nil_append, List.eraseIdx_cons_zero, List.eraseIdx_cons_succ, List.set_cons_zero, List.set_cons_succ] at hH
    subst hH
    rw [decide_eq_true rfl]
    refine ops_ro' rfl (ro_not rfl rfl) rfl ?_
    refine ops_ro' rfl (ro_pick rfl rfl) rfl ?_
    refine ops_nil ?_
    refine Then_normal ?_
    refine wp_condF rfl ?_
    refine wp_skip' ?_
    refine Then_normal ?_
    refine wp_seq' ?_
    refine wp_region' ?_
    refine ops_ro' rfl (ro_move rfl) rfl ?_
    refine ops_eff' rfl (eff_call Tryd.call20 rfl rfl (by repeat (first | exact Split.nil _ | apply Split.cons 0 rfl | apply Split.cons 1 rfl | apply Split.cons 2 rfl | apply Split.cons 3 rfl | apply Split.cons 4 rfl | apply Split.cons 5 rfl | apply Split.cons 6 rfl | apply Split.cons 7 rfl | apply Split.cons 8 rfl | apply Split.cons 9 rfl | apply Split.cons 10 rfl | apply Split.cons 11 rfl)) (kHead bad 33)) rfl ?_
    rintro _ H' ⟨_, ⟨rfl, rfl⟩, hH⟩
    simp only [List.cons_append, List.nil_append, List.eraseIdx_cons_zero, List.eraseIdx_cons_succ, List.set_cons_zero, List.set_cons_succ] at hH
    subst hH
    have hbl : (bad.take 33).length ≤ 33 := by rw [List.length_take]; omega
    generalize bad.take 33 = bad at *
    refine ops_ro' rfl (ro_assign rfl) rfl ?_
    refine ops_nil ?_
    refine Then_normal ?_
    refine wp_cutK 1015 (fun Δ LL => ∃ (a : Int), (0 ≤ a ∧ a ≤ 9223372036854775807) ∧ Δ = [(2, .int .i64 a)] ∧ LL = [row 9 1 (.slice p7 nm.length c7) nm.length (txs nm), V]) (Has.cons (k := 1) rfl (Has.cons (k := 7) rfl (Has.nil _))) ?_ ?_
    · refine wp_seq' ?_
      refine wp_region' ?_
      refine ops_ro' rfl (ro_move rfl) rfl ?_
      refine ops_ro' rfl (ro_lss rfl rfl rfl) rfl ?_
      refine ops_nil ?_
      refine Then_normal ?_
      refine wp_cond' rfl (fun hc73 => ?_) (fun hc73 => ?_)
      · replace hc73 := of_decide_eq_true hc73
        refine wp_region' ?_
        refine ops_ro' rfl (ro_move rfl) rfl ?_
        refine ops_ro' rfl (ro_add rfl rfl (wrap_i64_in (by omega) (by omega))) rfl ?_
        refine ops_ro' rfl (ro_neg rfl (by first | exact wrap_i64_in (by omega) (by omega) | rfl)) rfl ?_
        refine ops_ro' rfl (ro_assign rfl) rfl ?_
        refine ops_nil ?_
        refine Then_normal ?_
        refine over_cut (kept ⟨0 - (at' + 1), (by refine ⟨?_, ?_⟩ <;> omega), rfl, rfl⟩ ?_ ?_ ?_)
        · exact (by repeat (first | exact Has.nil _ | refine Has.cons rfl ?_))
        · exact (by repeat (first | exact Has.nil _ | refine Has.cons rfl ?_))
        · exact (SubH.cons 2 rfl (SubH.cons 1 rfl (SubH.nil _)))
      · replace hc73 := of_decide_eq_false hc73
        refine wp_skip' ?_
        refine Then_normal ?_
        refine over_cut (kept ⟨at', (by refine ⟨?_, ?_⟩ <;> omega), rfl, rfl⟩ ?_ ?_ ?_)
        · exact (by repeat (first | exact Has.nil _ | refine Has.cons rfl ?_))
        · exact (by repeat (first | exact Has.nil _ | refine Has.cons rfl ?_))
        · exact (SubH.cons 2 rfl (SubH.cons 1 rfl (SubH.nil _)))
    · rintro Δ LL ⟨a, ⟨ha, ha2⟩, rfl, rfl⟩
      simp only [List.cons_append, List.nil_append]
      refine wp_seq' ?_
      obtain ⟨k, rfl⟩ := Int.eq_ofNat_of_zero_le ha
      have hkl := Nat.mod_lt k (show 0 < nm.length + 1 by omega)
      refine wp_region' ?_
      refine ops_ro' rfl (ro_move rfl) rfl ?_
      refine ops_ro' rfl (ro_move rfl) rfl ?_
      refine ops_ro' rfl (ro_sliceLen Tryd.underlying24 rfl) rfl ?_
      refine ops_ro' rfl (ro_add rfl rfl (wrap_inc (by omega))) rfl ?_
      refine ops_ro' rfl (ro_rem rfl rfl (by omega) tmodN) rfl ?_
      replace hkl := Nat.le_of_lt_succ hkl
      generalize k % (nm.length + 1) = k at *
      refine ops_ro' rfl (ro_assign rfl) rfl ?_
      refine ops_nil ?_
      refine Then_normal ?_
      refine wp_cutK 1017 (fun Δ LL => ∃ (p93 : Option Addr) (c93 : Nat), Δ = [(13, .slice p93 (nm.take k ++ [bad] ++ nm.drop k).length c93)] ∧ LL = [row 9 1 (.slice p93 (nm.take k ++ [bad] ++ nm.drop k).length c93) (nm.take k ++ [bad] ++ nm.drop k).length (txs (nm.take k ++ [bad] ++ nm.drop k)), V]) (Has.cons (k := 1) rfl (Has.nil _)) ?_ ?_
      · refine wp_draw 12 (by kernel_rfl) (Split.nil _) ?_
        refine any_ro' (i := 1) (by kernel_rfl) rfl rfl (ro_move rfl) rfl (fun _ _ _ h => h) ?_
        refine any_ro' (i := 2) (by kernel_rfl) rfl rfl (ro_move rfl) rfl (fun _ _ _ h => h) ?_
        refine any_ro' (i := 3) (by kernel_rfl) rfl rfl (ro_sliceP sl24 rfl hsh rfl (bnd_of rfl rfl) (by omega) (by omega)) rfl (fun _ _ _ h => h) ?_
        refine any_ro' (i := 5) (by kernel_rfl) rfl rfl (ro_move rfl) rfl (fun _ _ _ h => h) ?_
        refine any_ro' (i := 8) (by kernel_rfl) rfl rfl (ro_move rfl) rfl (fun _ _ _ h => h) ?_
        refine any_ro' (i := 9) (by kernel_rfl) rfl rfl (ro_move rfl) rfl (fun _ _ _ h => h) ?_
        refine any_ro' (i := 10) (by kernel_rfl) rfl rfl (ro_sliceP sl24 rfl hsh (bnd_of rfl rfl) rfl (by omega) (by omega)) rfl (fun _ _ _ h => h) ?_
        refine any_two (i := 0) (j := 6) (by kernel_rfl) ?_ ?_
        · refine at_eff' rfl rfl (eff_lit sl24 rfl (sbld (cs := []) [] sl24 (by decide) (by kernel_rfl) rfl) rfl (by decide)) rfl ?_
          rintro _ _ ⟨b82, rfl, rfl⟩
          refine any_two (i := 4) (j := 6) (by kernel_rfl) ?_ ?_
          · refine at_eff' rfl rfl (eff_appF (f := Tx.cs) (l := []) (l2 := (nm.drop 0).take (k - 0)) 0 sl24 (.inl ⟨9, Tryd.underlying24⟩) rfl rfl rfl (by first | exact Src.flatv Tx.len Tx.one (Vw.pick 0 rfl (vw_subF Vw.row Tx.len (Nat.zero_le _) hkl hsh.2)) | exact Src.flatv Tx.len Tx.one (Vw.pick 1 rfl (vw_subF Vw.row Tx.len (Nat.zero_le _) hkl hsh.2)) | exact Src.flatv Tx.len Tx.one (Vw.pick 2 rfl (vw_subF Vw.row Tx.len (Nat.zero_le _) hkl hsh.2)) | exact Src.flatv Tx.len Tx.one (Vw.pick 3 rfl (vw_subF Vw.row Tx.len (Nat.zero_le _) hkl hsh.2)) | exact Src.flatv Tx.len Tx.one (Vw.pick 4 rfl (vw_subF Vw.row Tx.len (Nat.zero_le _) hkl hsh.2)) | exact Src.flatv Tx.len Tx.one (Vw.pick 5 rfl (vw_subF Vw.row Tx.len (Nat.zero_le _) hkl hsh.2)) | exact Src.flatv Tx.len Tx.one (Vw.pick 6 rfl (vw_subF Vw.row Tx.len (Nat.zero_le _) hkl hsh.2)) | exact Src.flatv Tx.len Tx.one (Vw.pick 7 rfl (vw_subF Vw.row Tx.len (Nat.zero_le _) hkl hsh.2)) | exact Src.flatv Tx.len Tx.one (Vw.pick 8 rfl (vw_subF Vw.row Tx.len (Nat.zero_le _) hkl hsh.2)) | exact Src.flatv Tx.len Tx.one (Vw.pick 0 rfl (vw_subF Vw.row Tx.len hkl (Nat.le_refl _) hsh.2)) | exact Src.flatv Tx.len Tx.one (Vw.pick 1 rfl (vw_subF Vw.row Tx.len hkl (Nat.le_refl _) hsh.2)) | exact Src.flatv Tx.len Tx.one (Vw.pick 2 rfl (vw_subF Vw.row Tx.len hkl (Nat.le_refl _) hsh.2)) | exact Src.flatv Tx.len Tx.one (Vw.pick 3 rfl (vw_subF Vw.row Tx.len hkl (Nat.le_refl _) hsh.2)) | exact Src.flatv Tx.len Tx.one (Vw.pick 4 rfl (vw_subF Vw.row Tx.len hkl (Nat.le_refl _) hsh.2)) | exact Src.flatv Tx.len Tx.one (Vw.pick 5 rfl (vw_subF Vw.row Tx.len hkl (Nat.le_refl _) hsh.2)) | exact Src.flatv Tx.len Tx.one (Vw.pick 6 rfl (vw_subF Vw.row Tx.len hkl (Nat.le_refl _) hsh.2)) | exact Src.flatv Tx.len Tx.one (Vw.pick 7 rfl (vw_subF Vw.row Tx.len hkl (Nat.le_refl _) hsh.2)) | exact Src.flatv Tx.len Tx.one (Vw.pick 8 rfl (vw_subF Vw.row Tx.len hkl (Nat.le_refl _) hsh.2)) | exact Src.flatv Tx.len Tx.one (Vw.pick 0 rfl Vw.row) | exact Src.flatv Tx.len Tx.one (Vw.pick 1 rfl Vw.row) | exact Src.flatv Tx.len Tx.one (Vw.pick 2 rfl Vw.row) | exact Src.flatv Tx.len Tx.one (Vw.pick 3 rfl Vw.row) | exact Src.flatv Tx.len Tx.one (Vw.pick 4 rfl Vw.row) | exact Src.flatv Tx.len Tx.one (Vw.pick 5 rfl Vw.row) | exact Src.flatv Tx.len Tx.one (Vw.pick 6 rfl Vw.row) | exact Src.flatv Tx.len Tx.one (Vw.pick 7 rfl Vw.row) | exact Src.flatv Tx.len Tx.one (Vw.pick 8 rfl Vw.row)) (by simp only [List.length_take, List.length_drop, List.length_nil]; omega) (by simp only [List.length_take, List.length_drop, List.length_nil]; omega)) rfl ?_
            rintro _ _ ⟨p86, c86, rfl, hn86, rfl⟩
            simp only [List.set_cons_zero, List.set_cons_succ, List.nil_append]
            rw [show (nm.drop 0).take (k - 0) = nm.take k from by simp]
            refine any_eff' (i := 6) (by kernel_rfl) rfl rfl (eff_lit sl24 rfl (sbld (cs := txs [bad]) [(.string ByteArray.empty)] sl24 (by decide) (by kernel_rfl) rfl) rfl (by decide)) rfl ?_
            rintro _ _ ⟨b88, rfl, rfl⟩
            refine any_eff' (i := 7) (by kernel_rfl) rfl rfl (eff_appF (f := Tx.cs) (l2 := [bad]) 1 sl24 (.inl ⟨9, Tryd.underlying24⟩) rfl rfl rfl (by first | exact Src.flatv Tx.len Tx.one (Vw.pick 0 rfl (vw_subF Vw.row Tx.len (Nat.zero_le _) hkl hsh.2)) | exact Src.flatv Tx.len Tx.one (Vw.pick 1 rfl (vw_subF Vw.row Tx.len (Nat.zero_le _) hkl hsh.2)) | exact Src.flatv Tx.len Tx.one (Vw.pick 2 rfl (vw_subF Vw.row Tx.len (Nat.zero_le _) hkl hsh.2)) | exact Src.flatv Tx.len Tx.one (Vw.pick 3 rfl (vw_subF Vw.row Tx.len (Nat.zero_le _) hkl hsh.2)) | exact Src.flatv Tx.len Tx.one (Vw.pick 4 rfl (vw_subF Vw.row Tx.len (Nat.zero_le _) hkl hsh.2)) | exact Src.flatv Tx.len Tx.one (Vw.pick 5 rfl (vw_subF Vw.row Tx.len (Nat.zero_le _) hkl hsh.2)) | exact Src.flatv Tx.len Tx.one (Vw.pick 6 rfl (vw_subF Vw.row Tx.len (Nat.zero_le _) hkl hsh.2)) | exact Src.flatv Tx.len Tx.one (Vw.pick 7 rfl (vw_subF Vw.row Tx.len (Nat.zero_le _) hkl hsh.2)) | exact Src.flatv Tx.len Tx.one (Vw.pick 8 rfl (vw_subF Vw.row Tx.len (Nat.zero_le _) hkl hsh.2)) | exact Src.flatv Tx.len Tx.one (Vw.pick 0 rfl (vw_subF Vw.row Tx.len hkl (Nat.le_refl _) hsh.2)) | exact Src.flatv Tx.len Tx.one (Vw.pick 1 rfl (vw_subF Vw.row Tx.len hkl (Nat.le_refl _) hsh.2)) | exact Src.flatv Tx.len Tx.one (Vw.pick 2 rfl (vw_subF Vw.row Tx.len hkl (Nat.le_refl _) hsh.2)) | exact Src.flatv Tx.len Tx.one (Vw.pick 3 rfl (vw_subF Vw.row Tx.len hkl (Nat.le_refl _) hsh.2)) | exact Src.flatv Tx.len Tx.one (Vw.pick 4 rfl (vw_subF Vw.row Tx.len hkl (Nat.le_refl _) hsh.2)) | exact Src.flatv Tx.len Tx.one (Vw.pick 5 rfl (vw_subF Vw.row Tx.len hkl (Nat.le_refl _) hsh.2)) | exact Src.flatv Tx.len Tx.one (Vw.pick 6 rfl (vw_subF Vw.row Tx.len hkl (Nat.le_refl _) hsh.2)) | exact Src.flatv Tx.len Tx.one (Vw.pick 7 rfl (vw_subF Vw.row Tx.len hkl (Nat.le_refl _) hsh.2)) | exact Src.flatv Tx.len Tx.one (Vw.pick 8 rfl (vw_subF Vw.row Tx.len hkl (Nat.le_refl _) hsh.2)) | exact Src.flatv Tx.len Tx.one (Vw.pick 0 rfl Vw.row) | exact Src.flatv Tx.len Tx.one (Vw.pick 1 rfl Vw.row) | exact Src.flatv Tx.len Tx.one (Vw.pick 2 rfl Vw.row) | exact Src.flatv Tx.len Tx.one (Vw.pick 3 rfl Vw.row) | exact Src.flatv Tx.len Tx.one (Vw.pick 4 rfl Vw.row) | exact Src.flatv Tx.len Tx.one (Vw.pick 5 rfl Vw.row) | exact Src.flatv Tx.len Tx.one (Vw.pick 6 rfl Vw.row) | exact Src.flatv Tx.len Tx.one (Vw.pick 7 rfl Vw.row) | exact Src.flatv Tx.len Tx.one (Vw.pick 8 rfl Vw.row)) (by simp only [List.length_take, List.length_cons, List.length_nil]; omega) (by simp only [List.length_take, List.length_cons, List.length_nil]; omega)) rfl ?_
            rintro _ _ ⟨p89, c89, rfl, hn89, rfl⟩
            simp only [List.set_cons_zero, List.set_cons_succ]
            refine any_eff' (i := 11) (by kernel_rfl) rfl rfl (eff_appF (f := Tx.cs) (l2 := (nm.drop k).take (nm.length - k)) 1 sl24 (.inl ⟨9, Tryd.underlying24⟩) rfl rfl rfl (by first | exact Src.flatv Tx.len Tx.one (Vw.pick 0 rfl (vw_subF Vw.row Tx.len (Nat.zero_le _) hkl hsh.2)) | exact Src.flatv Tx.len Tx.one (Vw.pick 1 rfl (vw_subF Vw.row Tx.len (Nat.zero_le _) hkl hsh.2)) | exact Src.flatv Tx.len Tx.one (Vw.pick 2 rfl (vw_subF Vw.row Tx.len (Nat.zero_le _) hkl hsh.2)) | exact Src.flatv Tx.len Tx.one (Vw.pick 3 rfl (vw_subF Vw.row Tx.len (Nat.zero_le _) hkl hsh.2)) | exact Src.flatv Tx.len Tx.one (Vw.pick 4 rfl (vw_subF Vw.row Tx.len (Nat.zero_le _) hkl hsh.2)) | exact Src.flatv Tx.len Tx.one (Vw.pick 5 rfl (vw_subF Vw.row Tx.len (Nat.zero_le _) hkl hsh.2)) | exact Src.flatv Tx.len Tx.one (Vw.pick 6 rfl (vw_subF Vw.row Tx.len (Nat.zero_le _) hkl hsh.2)) | exact Src.flatv Tx.len Tx.one (Vw.pick 7 rfl (vw_subF Vw.row Tx.len (Nat.zero_le _) hkl hsh.2)) | exact Src.flatv Tx.len Tx.one (Vw.pick 8 rfl (vw_subF Vw.row Tx.len (Nat.zero_le _) hkl hsh.2)) | exact Src.flatv Tx.len Tx.one (Vw.pick 0 rfl (vw_subF Vw.row Tx.len hkl (Nat.le_refl _) hsh.2)) | exact Src.flatv Tx.len Tx.one (Vw.pick 1 rfl (vw_subF Vw.row Tx.len hkl (Nat.le_refl _) hsh.2)) | exact Src.flatv Tx.len Tx.one (Vw.pick 2 rfl (vw_subF Vw.row Tx.len hkl (Nat.le_refl _) hsh.2)) | exact Src.flatv Tx.len Tx.one (Vw.pick 3 rfl (vw_subF Vw.row Tx.len hkl (Nat.le_refl _) hsh.2)) | exact Src.flatv Tx.len Tx.one (Vw.pick 4 rfl (vw_subF Vw.row Tx.len hkl (Nat.le_refl _) hsh.2)) | exact Src.flatv Tx.len Tx.one (Vw.pick 5 rfl (vw_subF Vw.row Tx.len hkl (Nat.le_refl _) hsh.2)) | exact Src.flatv Tx.len Tx.one (Vw.pick 6 rfl (vw_subF Vw.row Tx.len hkl (Nat.le_refl _) hsh.2)) | exact Src.flatv Tx.len Tx.one (Vw.pick 7 rfl (vw_subF Vw.row Tx.len hkl (Nat.le_refl _) hsh.2)) | exact Src.flatv Tx.len Tx.one (Vw.pick 8 rfl (vw_subF Vw.row Tx.len hkl (Nat.le_refl _) hsh.2)) | exact Src.flatv Tx.len Tx.one (Vw.pick 0 rfl Vw.row) | exact Src.flatv Tx.len Tx.one (Vw.pick 1 rfl Vw.row) | exact Src.flatv Tx.len Tx.one (Vw.pick 2 rfl Vw.row) | exact Src.flatv Tx.len Tx.one (Vw.pick 3 rfl Vw.row) | exact Src.flatv Tx.len Tx.one (Vw.pick 4 rfl Vw.row) | exact Src.flatv Tx.len Tx.one (Vw.pick 5 rfl Vw.row) | exact Src.flatv Tx.len Tx.one (Vw.pick 6 rfl Vw.row) | exact Src.flatv Tx.len Tx.one (Vw.pick 7 rfl Vw.row) | exact Src.flatv Tx.len Tx.one (Vw.pick 8 rfl Vw.row)) (by simp only [List.length_append, List.length_take, List.length_drop, List.length_cons, List.length_nil]; omega) (by simp only [List.length_append, List.length_take, List.length_drop, List.length_cons, List.length_nil]; omega)) rfl ?_
            rintro _ _ ⟨p93, c93, rfl, hn93, rfl⟩
            simp only [List.set_cons_zero, List.set_cons_succ]
            rw [show (nm.drop k).take (nm.length - k) = nm.drop k from List.take_of_length_le (by simp)]
            refine any_unlock (m' := 13) (L' := []) (by kernel_rfl) unlock ?_
            simp only [List.cons_append, List.nil_append, List.append_nil]
            refine any_ro' (i := 12) (by kernel_rfl) rfl rfl (ro_assign rfl) rfl (fun _ _ _ h => h) ?_
            refine any_doneH (by kernel_rfl) ?_
            refine Then_normal ?_
            refine over_cut (kept ⟨p93, c93, rfl, rfl⟩ ?_ ?_ ?_)
            · exact (by repeat (first | exact Has.nil _ | refine Has.cons rfl ?_))
            · exact (by repeat (first | exact Has.nil _ | refine Has.cons rfl ?_))
            · exact (SubH.cons 1 rfl (SubH.cons 2 rfl (SubH.nil _)))
          · refine at_eff' rfl rfl (eff_lit sl24 rfl (sbld (cs := txs [bad]) [(.string ByteArray.empty)] sl24 (by decide) (by kernel_rfl) rfl) rfl (by decide)) rfl ?_
            rintro _ _ ⟨b88, rfl, rfl⟩
            refine any_eff' (i := 4) (by kernel_rfl) rfl rfl (eff_appF (f := Tx.cs) (l := []) (l2 := (nm.drop 0).take (k - 0)) 1 sl24 (.inl ⟨9, Tryd.underlying24⟩) rfl rfl rfl (by first | exact Src.flatv Tx.len Tx.one (Vw.pick 0 rfl (vw_subF Vw.row Tx.len (Nat.zero_le _) hkl hsh.2)) | exact Src.flatv Tx.len Tx.one (Vw.pick 1 rfl (vw_subF Vw.row Tx.len (Nat.zero_le _) hkl hsh.2)) | exact Src.flatv Tx.len Tx.one (Vw.pick 2 rfl (vw_subF Vw.row Tx.len (Nat.zero_le _) hkl hsh.2)) | exact Src.flatv Tx.len Tx.one (Vw.pick 3 rfl (vw_subF Vw.row Tx.len (Nat.zero_le _) hkl hsh.2)) | exact Src.flatv Tx.len Tx.one (Vw.pick 4 rfl (vw_subF Vw.row Tx.len (Nat.zero_le _) hkl hsh.2)) | exact Src.flatv Tx.len Tx.one (Vw.pick 5 rfl (vw_subF Vw.row Tx.len (Nat.zero_le _) hkl hsh.2)) | exact Src.flatv Tx.len Tx.one (Vw.pick 6 rfl (vw_subF Vw.row Tx.len (Nat.zero_le _) hkl hsh.2)) | exact Src.flatv Tx.len Tx.one (Vw.pick 7 rfl (vw_subF Vw.row Tx.len (Nat.zero_le _) hkl hsh.2)) | exact Src.flatv Tx.len Tx.one (Vw.pick 8 rfl (vw_subF Vw.row Tx.len (Nat.zero_le _) hkl hsh.2)) | exact Src.flatv Tx.len Tx.one (Vw.pick 0 rfl (vw_subF Vw.row Tx.len hkl (Nat.le_refl _) hsh.2)) | exact Src.flatv Tx.len Tx.one (Vw.pick 1 rfl (vw_subF Vw.row Tx.len hkl (Nat.le_refl _) hsh.2)) | exact Src.flatv Tx.len Tx.one (Vw.pick 2 rfl (vw_subF Vw.row Tx.len hkl (Nat.le_refl _) hsh.2)) | exact Src.flatv Tx.len Tx.one (Vw.pick 3 rfl (vw_subF Vw.row Tx.len hkl (Nat.le_refl _) hsh.2)) | exact Src.flatv Tx.len Tx.one (Vw.pick 4 rfl (vw_subF Vw.row Tx.len hkl (Nat.le_refl _) hsh.2)) | exact Src.flatv Tx.len Tx.one (Vw.pick 5 rfl (vw_subF Vw.row Tx.len hkl (Nat.le_refl _) hsh.2)) | exact Src.flatv Tx.len Tx.one (Vw.pick 6 rfl (vw_subF Vw.row Tx.len hkl (Nat.le_refl _) hsh.2)) | exact Src.flatv Tx.len Tx.one (Vw.pick 7 rfl (vw_subF Vw.row Tx.len hkl (Nat.le_refl _) hsh.2)) | exact Src.flatv Tx.len Tx.one (Vw.pick 8 rfl (vw_subF Vw.row Tx.len hkl (Nat.le_refl _) hsh.2)) | exact Src.flatv Tx.len Tx.one (Vw.pick 0 rfl Vw.row) | exact Src.flatv Tx.len Tx.one (Vw.pick 1 rfl Vw.row) | exact Src.flatv Tx.len Tx.one (Vw.pick 2 rfl Vw.row) | exact Src.flatv Tx.len Tx.one (Vw.pick 3 rfl Vw.row) | exact Src.flatv Tx.len Tx.one (Vw.pick 4 rfl Vw.row) | exact Src.flatv Tx.len Tx.one (Vw.pick 5 rfl Vw.row) | exact Src.flatv Tx.len Tx.one (Vw.pick 6 rfl Vw.row) | exact Src.flatv Tx.len Tx.one (Vw.pick 7 rfl Vw.row) | exact Src.flatv Tx.len Tx.one (Vw.pick 8 rfl Vw.row)) (by simp only [List.length_take, List.length_drop, List.length_nil]; omega) (by simp only [List.length_take, List.length_drop, List.length_nil]; omega)) rfl ?_
            rintro _ _ ⟨p86, c86, rfl, hn86, rfl⟩
            simp only [List.set_cons_zero, List.set_cons_succ, List.nil_append]
            rw [show (nm.drop 0).take (k - 0) = nm.take k from by simp]
            refine any_eff' (i := 7) (by kernel_rfl) rfl rfl (eff_appF (f := Tx.cs) (l2 := [bad]) 1 sl24 (.inl ⟨9, Tryd.underlying24⟩) rfl rfl rfl (by first | exact Src.flatv Tx.len Tx.one (Vw.pick 0 rfl (vw_subF Vw.row Tx.len (Nat.zero_le _) hkl hsh.2)) | exact Src.flatv Tx.len Tx.one (Vw.pick 1 rfl (vw_subF Vw.row Tx.len (Nat.zero_le _) hkl hsh.2)) | exact Src.flatv Tx.len Tx.one (Vw.pick 2 rfl (vw_subF Vw.row Tx.len (Nat.zero_le _) hkl hsh.2)) | exact Src.flatv Tx.len Tx.one (Vw.pick 3 rfl (vw_subF Vw.row Tx.len (Nat.zero_le _) hkl hsh.2)) | exact Src.flatv Tx.len Tx.one (Vw.pick 4 rfl (vw_subF Vw.row Tx.len (Nat.zero_le _) hkl hsh.2)) | exact Src.flatv Tx.len Tx.one (Vw.pick 5 rfl (vw_subF Vw.row Tx.len (Nat.zero_le _) hkl hsh.2)) | exact Src.flatv Tx.len Tx.one (Vw.pick 6 rfl (vw_subF Vw.row Tx.len (Nat.zero_le _) hkl hsh.2)) | exact Src.flatv Tx.len Tx.one (Vw.pick 7 rfl (vw_subF Vw.row Tx.len (Nat.zero_le _) hkl hsh.2)) | exact Src.flatv Tx.len Tx.one (Vw.pick 8 rfl (vw_subF Vw.row Tx.len (Nat.zero_le _) hkl hsh.2)) | exact Src.flatv Tx.len Tx.one (Vw.pick 0 rfl (vw_subF Vw.row Tx.len hkl (Nat.le_refl _) hsh.2)) | exact Src.flatv Tx.len Tx.one (Vw.pick 1 rfl (vw_subF Vw.row Tx.len hkl (Nat.le_refl _) hsh.2)) | exact Src.flatv Tx.len Tx.one (Vw.pick 2 rfl (vw_subF Vw.row Tx.len hkl (Nat.le_refl _) hsh.2)) | exact Src.flatv Tx.len Tx.one (Vw.pick 3 rfl (vw_subF Vw.row Tx.len hkl (Nat.le_refl _) hsh.2)) | exact Src.flatv Tx.len Tx.one (Vw.pick 4 rfl (vw_subF Vw.row Tx.len hkl (Nat.le_refl _) hsh.2)) | exact Src.flatv Tx.len Tx.one (Vw.pick 5 rfl (vw_subF Vw.row Tx.len hkl (Nat.le_refl _) hsh.2)) | exact Src.flatv Tx.len Tx.one (Vw.pick 6 rfl (vw_subF Vw.row Tx.len hkl (Nat.le_refl _) hsh.2)) | exact Src.flatv Tx.len Tx.one (Vw.pick 7 rfl (vw_subF Vw.row Tx.len hkl (Nat.le_refl _) hsh.2)) | exact Src.flatv Tx.len Tx.one (Vw.pick 8 rfl (vw_subF Vw.row Tx.len hkl (Nat.le_refl _) hsh.2)) | exact Src.flatv Tx.len Tx.one (Vw.pick 0 rfl Vw.row) | exact Src.flatv Tx.len Tx.one (Vw.pick 1 rfl Vw.row) | exact Src.flatv Tx.len Tx.one (Vw.pick 2 rfl Vw.row) | exact Src.flatv Tx.len Tx.one (Vw.pick 3 rfl Vw.row) | exact Src.flatv Tx.len Tx.one (Vw.pick 4 rfl Vw.row) | exact Src.flatv Tx.len Tx.one (Vw.pick 5 rfl Vw.row) | exact Src.flatv Tx.len Tx.one (Vw.pick 6 rfl Vw.row) | exact Src.flatv Tx.len Tx.one (Vw.pick 7 rfl Vw.row) | exact Src.flatv Tx.len Tx.one (Vw.pick 8 rfl Vw.row)) (by simp only [List.length_take, List.length_cons, List.length_nil]; omega) (by simp only [List.length_take, List.length_cons, List.length_nil]; omega)) rfl ?_
            rintro _ _ ⟨p89, c89, rfl, hn89, rfl⟩
            simp only [List.set_cons_zero, List.set_cons_succ]
            refine any_eff' (i := 11) (by kernel_rfl) rfl rfl (eff_appF (f := Tx.cs) (l2 := (nm.drop k).take (nm.length - k)) 1 sl24 (.inl ⟨9, Tryd.underlying24⟩) rfl rfl rfl (by first | exact Src.flatv Tx.len Tx.one (Vw.pick 0 rfl (vw_subF Vw.row Tx.len (Nat.zero_le _) hkl hsh.2)) | exact Src.flatv Tx.len Tx.one (Vw.pick 1 rfl (vw_subF Vw.row Tx.len (Nat.zero_le _) hkl hsh.2)) | exact Src.flatv Tx.len Tx.one (Vw.pick 2 rfl (vw_subF Vw.row Tx.len (Nat.zero_le _) hkl hsh.2)) | exact Src.flatv Tx.len Tx.one (Vw.pick 3 rfl (vw_subF Vw.row Tx.len (Nat.zero_le _) hkl hsh.2)) | exact Src.flatv Tx.len Tx.one (Vw.pick 4 rfl (vw_subF Vw.row Tx.len (Nat.zero_le _) hkl hsh.2)) | exact Src.flatv Tx.len Tx.one (Vw.pick 5 rfl (vw_subF Vw.row Tx.len (Nat.zero_le _) hkl hsh.2)) | exact Src.flatv Tx.len Tx.one (Vw.pick 6 rfl (vw_subF Vw.row Tx.len (Nat.zero_le _) hkl hsh.2)) | exact Src.flatv Tx.len Tx.one (Vw.pick 7 rfl (vw_subF Vw.row Tx.len (Nat.zero_le _) hkl hsh.2)) | exact Src.flatv Tx.len Tx.one (Vw.pick 8 rfl (vw_subF Vw.row Tx.len (Nat.zero_le _) hkl hsh.2)) | exact Src.flatv Tx.len Tx.one (Vw.pick 0 rfl (vw_subF Vw.row Tx.len hkl (Nat.le_refl _) hsh.2)) | exact Src.flatv Tx.len Tx.one (Vw.pick 1 rfl (vw_subF Vw.row Tx.len hkl (Nat.le_refl _) hsh.2)) | exact Src.flatv Tx.len Tx.one (Vw.pick 2 rfl (vw_subF Vw.row Tx.len hkl (Nat.le_refl _) hsh.2)) | exact Src.flatv Tx.len Tx.one (Vw.pick 3 rfl (vw_subF Vw.row Tx.len hkl (Nat.le_refl _) hsh.2)) | exact Src.flatv Tx.len Tx.one (Vw.pick 4 rfl (vw_subF Vw.row Tx.len hkl (Nat.le_refl _) hsh.2)) | exact Src.flatv Tx.len Tx.one (Vw.pick 5 rfl (vw_subF Vw.row Tx.len hkl (Nat.le_refl _) hsh.2)) | exact Src.flatv Tx.len Tx.one (Vw.pick 6 rfl (vw_subF Vw.row Tx.len hkl (Nat.le_refl _) hsh.2)) | exact Src.flatv Tx.len Tx.one (Vw.pick 7 rfl (vw_subF Vw.row Tx.len hkl (Nat.le_refl _) hsh.2)) | exact Src.flatv Tx.len Tx.one (Vw.pick 8 rfl (vw_subF Vw.row Tx.len hkl (Nat.le_refl _) hsh.2)) | exact Src.flatv Tx.len Tx.one (Vw.pick 0 rfl Vw.row) | exact Src.flatv Tx.len Tx.one (Vw.pick 1 rfl Vw.row) | exact Src.flatv Tx.len Tx.one (Vw.pick 2 rfl Vw.row) | exact Src.flatv Tx.len Tx.one (Vw.pick 3 rfl Vw.row) | exact Src.flatv Tx.len Tx.one (Vw.pick 4 rfl Vw.row) | exact Src.flatv Tx.len Tx.one (Vw.pick 5 rfl Vw.row) | exact Src.flatv Tx.len Tx.one (Vw.pick 6 rfl Vw.row) | exact Src.flatv Tx.len Tx.one (Vw.pick 7 rfl Vw.row) | exact Src.flatv Tx.len Tx.one (Vw.pick 8 rfl Vw.row)) (by simp only [List.length_append, List.length_take, List.length_drop, List.length_cons, List.length_nil]; omega) (by simp only [List.length_append, List.length_take, List.length_drop, List.length_cons, List.length_nil]; omega)) rfl ?_
            rintro _ _ ⟨p93, c93, rfl, hn93, rfl⟩
            simp only [List.set_cons_zero, List.set_cons_succ]
            rw [show (nm.drop k).take (nm.length - k) = nm.drop k from List.take_of_length_le (by simp)]
            refine any_unlock (m' := 13) (L' := []) (by kernel_rfl) unlock ?_
            simp only [List.cons_append, List.nil_append, List.append_nil]
            refine any_ro' (i := 12) (by kernel_rfl) rfl rfl (ro_assign rfl) rfl (fun _ _ _ h => h) ?_
            refine any_doneH (by kernel_rfl) ?_
            refine Then_normal ?_
            refine over_cut (kept ⟨p93, c93, rfl, rfl⟩ ?_ ?_ ?_)
            · exact (by repeat (first | exact Has.nil _ | refine Has.cons rfl ?_))
            · exact (by repeat (first | exact Has.nil _ | refine Has.cons rfl ?_))
            · exact (SubH.cons 1 rfl (SubH.cons 2 rfl (SubH.nil _)))
        · refine at_eff' rfl rfl (eff_lit sl24 rfl (sbld (cs := txs [bad]) [(.string ByteArray.empty)] sl24 (by decide) (by kernel_rfl) rfl) rfl (by decide)) rfl ?_
          rintro _ _ ⟨b88, rfl, rfl⟩
          refine any_eff' (i := 0) (by kernel_rfl) rfl rfl (eff_lit sl24 rfl (sbld (cs := []) [] sl24 (by decide) (by kernel_rfl) rfl) rfl (by decide)) rfl ?_
          rintro _ _ ⟨b82, rfl, rfl⟩
          refine any_eff' (i := 4) (by kernel_rfl) rfl rfl (eff_appF (f := Tx.cs) (l := []) (l2 := (nm.drop 0).take (k - 0)) 0 sl24 (.inl ⟨9, Tryd.underlying24⟩) rfl rfl rfl (by first | exact Src.flatv Tx.len Tx.one (Vw.pick 0 rfl (vw_subF Vw.row Tx.len (Nat.zero_le _) hkl hsh.2)) | exact Src.flatv Tx.len Tx.one (Vw.pick 1 rfl (vw_subF Vw.row Tx.len (Nat.zero_le _) hkl hsh.2)) | exact Src.flatv Tx.len Tx.one (Vw.pick 2 rfl (vw_subF Vw.row Tx.len (Nat.zero_le _) hkl hsh.2)) | exact Src.flatv Tx.len Tx.one (Vw.pick 3 rfl (vw_subF Vw.row Tx.len (Nat.zero_le _) hkl hsh.2)) | exact Src.flatv Tx.len Tx.one (Vw.pick 4 rfl (vw_subF Vw.row Tx.len (Nat.zero_le _) hkl hsh.2)) | exact Src.flatv Tx.len Tx.one (Vw.pick 5 rfl (vw_subF Vw.row Tx.len (Nat.zero_le _) hkl hsh.2)) | exact Src.flatv Tx.len Tx.one (Vw.pick 6 rfl (vw_subF Vw.row Tx.len (Nat.zero_le _) hkl hsh.2)) | exact Src.flatv Tx.len Tx.one (Vw.pick 7 rfl (vw_subF Vw.row Tx.len (Nat.zero_le _) hkl hsh.2)) | exact Src.flatv Tx.len Tx.one (Vw.pick 8 rfl (vw_subF Vw.row Tx.len (Nat.zero_le _) hkl hsh.2)) | exact Src.flatv Tx.len Tx.one (Vw.pick 0 rfl (vw_subF Vw.row Tx.len hkl (Nat.le_refl _) hsh.2)) | exact Src.flatv Tx.len Tx.one (Vw.pick 1 rfl (vw_subF Vw.row Tx.len hkl (Nat.le_refl _) hsh.2)) | exact Src.flatv Tx.len Tx.one (Vw.pick 2 rfl (vw_subF Vw.row Tx.len hkl (Nat.le_refl _) hsh.2)) | exact Src.flatv Tx.len Tx.one (Vw.pick 3 rfl (vw_subF Vw.row Tx.len hkl (Nat.le_refl _) hsh.2)) | exact Src.flatv Tx.len Tx.one (Vw.pick 4 rfl (vw_subF Vw.row Tx.len hkl (Nat.le_refl _) hsh.2)) | exact Src.flatv Tx.len Tx.one (Vw.pick 5 rfl (vw_subF Vw.row Tx.len hkl (Nat.le_refl _) hsh.2)) | exact Src.flatv Tx.len Tx.one (Vw.pick 6 rfl (vw_subF Vw.row Tx.len hkl (Nat.le_refl _) hsh.2)) | exact Src.flatv Tx.len Tx.one (Vw.pick 7 rfl (vw_subF Vw.row Tx.len hkl (Nat.le_refl _) hsh.2)) | exact Src.flatv Tx.len Tx.one (Vw.pick 8 rfl (vw_subF Vw.row Tx.len hkl (Nat.le_refl _) hsh.2)) | exact Src.flatv Tx.len Tx.one (Vw.pick 0 rfl Vw.row) | exact Src.flatv Tx.len Tx.one (Vw.pick 1 rfl Vw.row) | exact Src.flatv Tx.len Tx.one (Vw.pick 2 rfl Vw.row) | exact Src.flatv Tx.len Tx.one (Vw.pick 3 rfl Vw.row) | exact Src.flatv Tx.len Tx.one (Vw.pick 4 rfl Vw.row) | exact Src.flatv Tx.len Tx.one (Vw.pick 5 rfl Vw.row) | exact Src.flatv Tx.len Tx.one (Vw.pick 6 rfl Vw.row) | exact Src.flatv Tx.len Tx.one (Vw.pick 7 rfl Vw.row) | exact Src.flatv Tx.len Tx.one (Vw.pick 8 rfl Vw.row)) (by simp only [List.length_take, List.length_drop, List.length_nil]; omega) (by simp only [List.length_take, List.length_drop, List.length_nil]; omega)) rfl ?_
          rintro _ _ ⟨p86, c86, rfl, hn86, rfl⟩
          simp only [List.set_cons_zero, List.set_cons_succ, List.nil_append]
          rw [show (nm.drop 0).take (k - 0) = nm.take k from by simp]
          refine any_eff' (i := 7) (by kernel_rfl) rfl rfl (eff_appF (f := Tx.cs) (l2 := [bad]) 0 sl24 (.inl ⟨9, Tryd.underlying24⟩) rfl rfl rfl (by first | exact Src.flatv Tx.len Tx.one (Vw.pick 0 rfl (vw_subF Vw.row Tx.len (Nat.zero_le _) hkl hsh.2)) | exact Src.flatv Tx.len Tx.one (Vw.pick 1 rfl (vw_subF Vw.row Tx.len (Nat.zero_le _) hkl hsh.2)) | exact Src.flatv Tx.len Tx.one (Vw.pick 2 rfl (vw_subF Vw.row Tx.len (Nat.zero_le _) hkl hsh.2)) | exact Src.flatv Tx.len Tx.one (Vw.pick 3 rfl (vw_subF Vw.row Tx.len (Nat.zero_le _) hkl hsh.2)) | exact Src.flatv Tx.len Tx.one (Vw.pick 4 rfl (vw_subF Vw.row Tx.len (Nat.zero_le _) hkl hsh.2)) | exact Src.flatv Tx.len Tx.one (Vw.pick 5 rfl (vw_subF Vw.row Tx.len (Nat.zero_le _) hkl hsh.2)) | exact Src.flatv Tx.len Tx.one (Vw.pick 6 rfl (vw_subF Vw.row Tx.len (Nat.zero_le _) hkl hsh.2)) | exact Src.flatv Tx.len Tx.one (Vw.pick 7 rfl (vw_subF Vw.row Tx.len (Nat.zero_le _) hkl hsh.2)) | exact Src.flatv Tx.len Tx.one (Vw.pick 8 rfl (vw_subF Vw.row Tx.len (Nat.zero_le _) hkl hsh.2)) | exact Src.flatv Tx.len Tx.one (Vw.pick 0 rfl (vw_subF Vw.row Tx.len hkl (Nat.le_refl _) hsh.2)) | exact Src.flatv Tx.len Tx.one (Vw.pick 1 rfl (vw_subF Vw.row Tx.len hkl (Nat.le_refl _) hsh.2)) | exact Src.flatv Tx.len Tx.one (Vw.pick 2 rfl (vw_subF Vw.row Tx.len hkl (Nat.le_refl _) hsh.2)) | exact Src.flatv Tx.len Tx.one (Vw.pick 3 rfl (vw_subF Vw.row Tx.len hkl (Nat.le_refl _) hsh.2)) | exact Src.flatv Tx.len Tx.one (Vw.pick 4 rfl (vw_subF Vw.row Tx.len hkl (Nat.le_refl _) hsh.2)) | exact Src.flatv Tx.len Tx.one (Vw.pick 5 rfl (vw_subF Vw.row Tx.len hkl (Nat.le_refl _) hsh.2)) | exact Src.flatv Tx.len Tx.one (Vw.pick 6 rfl (vw_subF Vw.row Tx.len hkl (Nat.le_refl _) hsh.2)) | exact Src.flatv Tx.len Tx.one (Vw.pick 7 rfl (vw_subF Vw.row Tx.len hkl (Nat.le_refl _) hsh.2)) | exact Src.flatv Tx.len Tx.one (Vw.pick 8 rfl (vw_subF Vw.row Tx.len hkl (Nat.le_refl _) hsh.2)) | exact Src.flatv Tx.len Tx.one (Vw.pick 0 rfl Vw.row) | exact Src.flatv Tx.len Tx.one (Vw.pick 1 rfl Vw.row) | exact Src.flatv Tx.len Tx.one (Vw.pick 2 rfl Vw.row) | exact Src.flatv Tx.len Tx.one (Vw.pick 3 rfl Vw.row) | exact Src.flatv Tx.len Tx.one (Vw.pick 4 rfl Vw.row) | exact Src.flatv Tx.len Tx.one (Vw.pick 5 rfl Vw.row) | exact Src.flatv Tx.len Tx.one (Vw.pick 6 rfl Vw.row) | exact Src.flatv Tx.len Tx.one (Vw.pick 7 rfl Vw.row) | exact Src.flatv Tx.len Tx.one (Vw.pick 8 rfl Vw.row)) (by simp only [List.length_take, List.length_cons, List.length_nil]; omega) (by simp only [List.length_take, List.length_cons, List.length_nil]; omega)) rfl ?_
          rintro _ _ ⟨p89, c89, rfl, hn89, rfl⟩
          simp only [List.set_cons_zero, List.set_cons_succ]
          refine any_eff' (i := 11) (by kernel_rfl) rfl rfl (eff_appF (f := Tx.cs) (l2 := (nm.drop k).take (nm.length - k)) 0 sl24 (.inl ⟨9, Tryd.underlying24⟩) rfl rfl rfl (by first | exact Src.flatv Tx.len Tx.one (Vw.pick 0 rfl (vw_subF Vw.row Tx.len (Nat.zero_le _) hkl hsh.2)) | exact Src.flatv Tx.len Tx.one (Vw.pick 1 rfl (vw_subF Vw.row Tx.len (Nat.zero_le _) hkl hsh.2)) | exact Src.flatv Tx.len Tx.one (Vw.pick 2 rfl (vw_subF Vw.row Tx.len (Nat.zero_le _) hkl hsh.2)) | exact Src.flatv Tx.len Tx.one (Vw.pick 3 rfl (vw_subF Vw.row Tx.len (Nat.zero_le _) hkl hsh.2)) | exact Src.flatv Tx.len Tx.one (Vw.pick 4 rfl (vw_subF Vw.row Tx.len (Nat.zero_le _) hkl hsh.2)) | exact Src.flatv Tx.len Tx.one (Vw.pick 5 rfl (vw_subF Vw.row Tx.len (Nat.zero_le _) hkl hsh.2)) | exact Src.flatv Tx.len Tx.one (Vw.pick 6 rfl (vw_subF Vw.row Tx.len (Nat.zero_le _) hkl hsh.2)) | exact Src.flatv Tx.len Tx.one (Vw.pick 7 rfl (vw_subF Vw.row Tx.len (Nat.zero_le _) hkl hsh.2)) | exact Src.flatv Tx.len Tx.one (Vw.pick 8 rfl (vw_subF Vw.row Tx.len (Nat.zero_le _) hkl hsh.2)) | exact Src.flatv Tx.len Tx.one (Vw.pick 0 rfl (vw_subF Vw.row Tx.len hkl (Nat.le_refl _) hsh.2)) | exact Src.flatv Tx.len Tx.one (Vw.pick 1 rfl (vw_subF Vw.row Tx.len hkl (Nat.le_refl _) hsh.2)) | exact Src.flatv Tx.len Tx.one (Vw.pick 2 rfl (vw_subF Vw.row Tx.len hkl (Nat.le_refl _) hsh.2)) | exact Src.flatv Tx.len Tx.one (Vw.pick 3 rfl (vw_subF Vw.row Tx.len hkl (Nat.le_refl _) hsh.2)) | exact Src.flatv Tx.len Tx.one (Vw.pick 4 rfl (vw_subF Vw.row Tx.len hkl (Nat.le_refl _) hsh.2)) | exact Src.flatv Tx.len Tx.one (Vw.pick 5 rfl (vw_subF Vw.row Tx.len hkl (Nat.le_refl _) hsh.2)) | exact Src.flatv Tx.len Tx.one (Vw.pick 6 rfl (vw_subF Vw.row Tx.len hkl (Nat.le_refl _) hsh.2)) | exact Src.flatv Tx.len Tx.one (Vw.pick 7 rfl (vw_subF Vw.row Tx.len hkl (Nat.le_refl _) hsh.2)) | exact Src.flatv Tx.len Tx.one (Vw.pick 8 rfl (vw_subF Vw.row Tx.len hkl (Nat.le_refl _) hsh.2)) | exact Src.flatv Tx.len Tx.one (Vw.pick 0 rfl Vw.row) | exact Src.flatv Tx.len Tx.one (Vw.pick 1 rfl Vw.row) | exact Src.flatv Tx.len Tx.one (Vw.pick 2 rfl Vw.row) | exact Src.flatv Tx.len Tx.one (Vw.pick 3 rfl Vw.row) | exact Src.flatv Tx.len Tx.one (Vw.pick 4 rfl Vw.row) | exact Src.flatv Tx.len Tx.one (Vw.pick 5 rfl Vw.row) | exact Src.flatv Tx.len Tx.one (Vw.pick 6 rfl Vw.row) | exact Src.flatv Tx.len Tx.one (Vw.pick 7 rfl Vw.row) | exact Src.flatv Tx.len Tx.one (Vw.pick 8 rfl Vw.row)) (by simp only [List.length_append, List.length_take, List.length_drop, List.length_cons, List.length_nil]; omega) (by simp only [List.length_append, List.length_take, List.length_drop, List.length_cons, List.length_nil]; omega)) rfl ?_
          rintro _ _ ⟨p93, c93, rfl, hn93, rfl⟩
          simp only [List.set_cons_zero, List.set_cons_succ]
          rw [show (nm.drop k).take (nm.length - k) = nm.drop k from List.take_of_length_le (by simp)]
          refine any_unlock (m' := 13) (L' := []) (by kernel_rfl) unlock ?_
          simp only [List.cons_append, List.nil_append, List.append_nil]
          refine any_ro' (i := 12) (by kernel_rfl) rfl rfl (ro_assign rfl) rfl (fun _ _ _ h => h) ?_
          refine any_doneH (by kernel_rfl) ?_
          refine Then_normal ?_
          refine over_cut (kept ⟨p93, c93, rfl, rfl⟩ ?_ ?_ ?_)
          · exact (by repeat (first | exact Has.nil _ | refine Has.cons rfl ?_))
          · exact (by repeat (first | exact Has.nil _ | refine Has.cons rfl ?_))
          · exact (SubH.cons 0 rfl (SubH.cons 2 rfl (SubH.nil _)))
      · rintro Δ LL ⟨p93, c93, rfl, rfl⟩
        simp only [List.cons_append, List.nil_append]
        refine wp_seq' ?_
        refine wp_know (fun w F s => row_caps 0 rfl s) ?_
        intro hca
        obtain ⟨al, hal⟩ : ∃ z, z = nm.take k ++ [bad] ++ nm.drop k := ⟨_, rfl⟩
        rw [← hal] at hca ⊢
        have hol : al.length ≤ 7 := by rw [hal, cut_len hkl]; omega
        have hpl : ptLen al = ptLen nm + (bad.length + 1) := by rw [hal, ptLen_cut]
        have hjl := (pJoin_len al).1
        have hal3 : ∀ x ∈ al, x.length ≤ 300 := fun x hx => by
          rw [hal] at hx
          rcases mem_cut hx with h | h
          · exact h300 x h
          · rw [h]; omega
        obtain ⟨hw1, hw2⟩ := pSplit_size (pJoin al)
        refine wp_region' ?_
        refine ops_ro' rfl (ro_move rfl) rfl ?_
        refine ops_eff' rfl (eff_callM (Pre := []) Tryd.call18 rfl rfl (Split.nil _) (ptJoin_spec _ _ _ al (by first | exact (Vw.pick 0 rfl (vw_subF Vw.row Tx.len (Nat.zero_le _) hkl hsh.2)) | exact (Vw.pick 1 rfl (vw_subF Vw.row Tx.len (Nat.zero_le _) hkl hsh.2)) | exact (Vw.pick 2 rfl (vw_subF Vw.row Tx.len (Nat.zero_le _) hkl hsh.2)) | exact (Vw.pick 3 rfl (vw_subF Vw.row Tx.len (Nat.zero_le _) hkl hsh.2)) | exact (Vw.pick 4 rfl (vw_subF Vw.row Tx.len (Nat.zero_le _) hkl hsh.2)) | exact (Vw.pick 5 rfl (vw_subF Vw.row Tx.len (Nat.zero_le _) hkl hsh.2)) | exact (Vw.pick 6 rfl (vw_subF Vw.row Tx.len (Nat.zero_le _) hkl hsh.2)) | exact (Vw.pick 7 rfl (vw_subF Vw.row Tx.len (Nat.zero_le _) hkl hsh.2)) | exact (Vw.pick 8 rfl (vw_subF Vw.row Tx.len (Nat.zero_le _) hkl hsh.2)) | exact (Vw.pick 0 rfl (vw_subF Vw.row Tx.len hkl (Nat.le_refl _) hsh.2)) | exact (Vw.pick 1 rfl (vw_subF Vw.row Tx.len hkl (Nat.le_refl _) hsh.2)) | exact (Vw.pick 2 rfl (vw_subF Vw.row Tx.len hkl (Nat.le_refl _) hsh.2)) | exact (Vw.pick 3 rfl (vw_subF Vw.row Tx.len hkl (Nat.le_refl _) hsh.2)) | exact (Vw.pick 4 rfl (vw_subF Vw.row Tx.len hkl (Nat.le_refl _) hsh.2)) | exact (Vw.pick 5 rfl (vw_subF Vw.row Tx.len hkl (Nat.le_refl _) hsh.2)) | exact (Vw.pick 6 rfl (vw_subF Vw.row Tx.len hkl (Nat.le_refl _) hsh.2)) | exact (Vw.pick 7 rfl (vw_subF Vw.row Tx.len hkl (Nat.le_refl _) hsh.2)) | exact (Vw.pick 8 rfl (vw_subF Vw.row Tx.len hkl (Nat.le_refl _) hsh.2)) | exact Vw.pick 0 rfl Vw.row | exact Vw.pick 1 rfl Vw.row | exact Vw.pick 2 rfl Vw.row | exact Vw.pick 3 rfl Vw.row | exact Vw.pick 4 rfl Vw.row | exact Vw.pick 5 rfl Vw.row | exact Vw.pick 6 rfl Vw.row | exact Vw.pick 7 rfl Vw.row | exact Vw.pick 8 rfl Vw.row | exact Vw.nil _ | exact Vw.empty _ _) hca (by omega) hal3)) rfl ?_
        rintro _ H' ⟨_, ⟨rfl, rfl⟩, hH⟩
        simp only [List.cons_append, List.nil_append, List.eraseIdx_cons_zero, List.eraseIdx_cons_succ, List.set_cons_zero, List.set_cons_succ] at hH
        subst hH
        refine ops_eff' rfl (eff_call Tryd.call11 rfl rfl (by repeat (first | exact Split.nil _ | apply Split.cons 0 rfl | apply Split.cons 1 rfl | apply Split.cons 2 rfl | apply Split.cons 3 rfl | apply Split.cons 4 rfl | apply Split.cons 5 rfl | apply Split.cons 6 rfl | apply Split.cons 7 rfl | apply Split.cons 8 rfl | apply Split.cons 9 rfl | apply Split.cons 10 rfl | apply Split.cons 11 rfl)) (ptSplit_spec V hM (pJoin al) (by omega))) rfl ?_
        rintro _ H' ⟨_, ⟨_, ⟨p97, c97, rfl, rfl⟩, rfl⟩, hH⟩
        simp only [List.cons_append, List.nil_append, List.eraseIdx_cons_zero, List.eraseIdx_cons_succ, List.set_cons_zero, List.set_cons_succ] at hH
        subst hH
        refine ops_ro' rfl (ro_move rfl) rfl ?_
        refine ops_ro' rfl (ro_extract rfl rfl) rfl ?_
        refine ops_ro' rfl (ro_extract rfl rfl) rfl ?_
        refine ops_ro' rfl (ro_assign rfl) rfl ?_
        refine ops_ro' rfl (ro_assign rfl) rfl ?_
        refine ops_nil ?_
        refine Then_normal ?_
        refine wp_seq' ?_
        refine wp_seq' ?_
        refine wp_region' ?_
        refine ops_ro' rfl (ro_move rfl) rfl ?_
        refine ops_eff' rfl (eff_call Tryd.call16 rfl rfl (by repeat (first | exact Split.nil _ | apply Split.cons 0 rfl | apply Split.cons 1 rfl | apply Split.cons 2 rfl | apply Split.cons 3 rfl | apply Split.cons 4 rfl | apply Split.cons 5 rfl | apply Split.cons 6 rfl | apply Split.cons 7 rfl | apply Split.cons 8 rfl | apply Split.cons 9 rfl | apply Split.cons 10 rfl | apply Split.cons 11 rfl)) (ptRight_spec bad (by omega))) rfl ?_
        rintro _ H' ⟨_, ⟨rfl, rfl⟩, hH⟩
        simp only [List.cons_append, List.nil_append, List.eraseIdx_cons_zero, List.eraseIdx_cons_succ, List.set_cons_zero, List.set_cons_succ] at hH
        subst hH
        refine ops_nil ?_
        refine Then_normal ?_
        refine wp_cond' rfl (fun hc101 => ?_) (fun hc101 => ?_)
        · skip
          have hoa : ∀ x ∈ al, ptOk x = true := fun x hx => by
            rw [hal] at hx
            rcases mem_cut hx with h | h
            · exact hok x h
            · rw [h]; exact hc101
          rw [pSplit_join hoa (by omega)]
          refine wp_seq' ?_
          refine wp_region' ?_
          refine ops_ro' rfl (ro_move rfl) rfl ?_
          refine ops_ro' rfl (ro_eql rfl rfl (decide_eq_true (by omega))) rfl ?_
          refine ops_ro' rfl (ro_move (v := .bool true) rfl) rfl ?_
          refine ops_ro' rfl (ro_move rfl) rfl ?_
          refine ops_ro' rfl (ro_move rfl) rfl ?_
          refine ops_eff' rfl (eff_callM (Pre := []) Tryd.call15 rfl rfl (Split.nil _) (ktexts_spec _ al al _ _ _ _ (by first | exact (Vw.pick 0 rfl (vw_subF Vw.row Tx.len (Nat.zero_le _) hkl hsh.2)) | exact (Vw.pick 1 rfl (vw_subF Vw.row Tx.len (Nat.zero_le _) hkl hsh.2)) | exact (Vw.pick 2 rfl (vw_subF Vw.row Tx.len (Nat.zero_le _) hkl hsh.2)) | exact (Vw.pick 3 rfl (vw_subF Vw.row Tx.len (Nat.zero_le _) hkl hsh.2)) | exact (Vw.pick 4 rfl (vw_subF Vw.row Tx.len (Nat.zero_le _) hkl hsh.2)) | exact (Vw.pick 5 rfl (vw_subF Vw.row Tx.len (Nat.zero_le _) hkl hsh.2)) | exact (Vw.pick 6 rfl (vw_subF Vw.row Tx.len (Nat.zero_le _) hkl hsh.2)) | exact (Vw.pick 7 rfl (vw_subF Vw.row Tx.len (Nat.zero_le _) hkl hsh.2)) | exact (Vw.pick 8 rfl (vw_subF Vw.row Tx.len (Nat.zero_le _) hkl hsh.2)) | exact (Vw.pick 0 rfl (vw_subF Vw.row Tx.len hkl (Nat.le_refl _) hsh.2)) | exact (Vw.pick 1 rfl (vw_subF Vw.row Tx.len hkl (Nat.le_refl _) hsh.2)) | exact (Vw.pick 2 rfl (vw_subF Vw.row Tx.len hkl (Nat.le_refl _) hsh.2)) | exact (Vw.pick 3 rfl (vw_subF Vw.row Tx.len hkl (Nat.le_refl _) hsh.2)) | exact (Vw.pick 4 rfl (vw_subF Vw.row Tx.len hkl (Nat.le_refl _) hsh.2)) | exact (Vw.pick 5 rfl (vw_subF Vw.row Tx.len hkl (Nat.le_refl _) hsh.2)) | exact (Vw.pick 6 rfl (vw_subF Vw.row Tx.len hkl (Nat.le_refl _) hsh.2)) | exact (Vw.pick 7 rfl (vw_subF Vw.row Tx.len hkl (Nat.le_refl _) hsh.2)) | exact (Vw.pick 8 rfl (vw_subF Vw.row Tx.len hkl (Nat.le_refl _) hsh.2)) | exact Vw.pick 0 rfl Vw.row | exact Vw.pick 1 rfl Vw.row | exact Vw.pick 2 rfl Vw.row | exact Vw.pick 3 rfl Vw.row | exact Vw.pick 4 rfl Vw.row | exact Vw.pick 5 rfl Vw.row | exact Vw.pick 6 rfl Vw.row | exact Vw.pick 7 rfl Vw.row | exact Vw.pick 8 rfl Vw.row | exact Vw.nil _ | exact Vw.empty _ _) (by first | exact (Vw.pick 0 rfl (vw_subF Vw.row Tx.len (Nat.zero_le _) hkl hsh.2)) | exact (Vw.pick 1 rfl (vw_subF Vw.row Tx.len (Nat.zero_le _) hkl hsh.2)) | exact (Vw.pick 2 rfl (vw_subF Vw.row Tx.len (Nat.zero_le _) hkl hsh.2)) | exact (Vw.pick 3 rfl (vw_subF Vw.row Tx.len (Nat.zero_le _) hkl hsh.2)) | exact (Vw.pick 4 rfl (vw_subF Vw.row Tx.len (Nat.zero_le _) hkl hsh.2)) | exact (Vw.pick 5 rfl (vw_subF Vw.row Tx.len (Nat.zero_le _) hkl hsh.2)) | exact (Vw.pick 6 rfl (vw_subF Vw.row Tx.len (Nat.zero_le _) hkl hsh.2)) | exact (Vw.pick 7 rfl (vw_subF Vw.row Tx.len (Nat.zero_le _) hkl hsh.2)) | exact (Vw.pick 8 rfl (vw_subF Vw.row Tx.len (Nat.zero_le _) hkl hsh.2)) | exact (Vw.pick 0 rfl (vw_subF Vw.row Tx.len hkl (Nat.le_refl _) hsh.2)) | exact (Vw.pick 1 rfl (vw_subF Vw.row Tx.len hkl (Nat.le_refl _) hsh.2)) | exact (Vw.pick 2 rfl (vw_subF Vw.row Tx.len hkl (Nat.le_refl _) hsh.2)) | exact (Vw.pick 3 rfl (vw_subF Vw.row Tx.len hkl (Nat.le_refl _) hsh.2)) | exact (Vw.pick 4 rfl (vw_subF Vw.row Tx.len hkl (Nat.le_refl _) hsh.2)) | exact (Vw.pick 5 rfl (vw_subF Vw.row Tx.len hkl (Nat.le_refl _) hsh.2)) | exact (Vw.pick 6 rfl (vw_subF Vw.row Tx.len hkl (Nat.le_refl _) hsh.2)) | exact (Vw.pick 7 rfl (vw_subF Vw.row Tx.len hkl (Nat.le_refl _) hsh.2)) | exact (Vw.pick 8 rfl (vw_subF Vw.row Tx.len hkl (Nat.le_refl _) hsh.2)) | exact Vw.pick 0 rfl Vw.row | exact Vw.pick 1 rfl Vw.row | exact Vw.pick 2 rfl Vw.row | exact Vw.pick 3 rfl Vw.row | exact Vw.pick 4 rfl Vw.row | exact Vw.pick 5 rfl Vw.row | exact Vw.pick 6 rfl Vw.row | exact Vw.pick 7 rfl Vw.row | exact Vw.pick 8 rfl Vw.row | exact Vw.nil _ | exact Vw.empty _ _) (by omega))) rfl ?_
          rintro _ H' ⟨_, ⟨rfl, rfl⟩, hH⟩
          simp only [List.cons_append, List.nil_append, List.eraseIdx_cons_zero, List.eraseIdx_cons_succ, List.set_cons_zero, List.set_cons_succ] at hH
          subst hH
          rw [decide_eq_true rfl]
          refine ops_ro' rfl (ro_pick rfl rfl) rfl ?_
          refine ops_ro' rfl (ro_move (v := .bool true) rfl) rfl ?_
          refine ops_eff' rfl (eff_call Tryd.call19 rfl rfl (by repeat (first | exact Split.nil _ | apply Split.cons 0 rfl | apply Split.cons 1 rfl | apply Split.cons 2 rfl | apply Split.cons 3 rfl | apply Split.cons 4 rfl | apply Split.cons 5 rfl | apply Split.cons 6 rfl | apply Split.cons 7 rfl | apply Split.cons 8 rfl | apply Split.cons 9 rfl | apply Split.cons 10 rfl | apply Split.cons 11 rfl)) (known13_spec V hM)) rfl ?_
          rintro _ H' ⟨_, ⟨rfl, rfl⟩, hH⟩
          simp only [List.cons_append, List.nil_append, List.eraseIdx_cons_zero, List.eraseIdx_cons_succ, List.set_cons_zero, List.set_cons_succ] at hH
          subst hH
          refine ops_ro' rfl (ro_pick rfl rfl) rfl ?_
          refine ops_ro' rfl (ro_assign rfl) rfl ?_
          refine ops_nil ?_
          refine Then_normal ?_
          refine wp_ret' ?_
          refine Then_ret ?_
          refine' doneS_ret (res1 rfl rfl) ?_ ?_
          rotate_left 1
          exact ⟨rfl, rfl⟩
          exact (SubH.cons 0 rfl (SubH.nil _))
        · skip
          refine wp_skip' ?_
          refine Then_normal ?_
          refine wp_seq' ?_
          refine wp_region' ?_
          refine ops_ro' rfl (ro_move rfl) rfl ?_
          refine ops_ro' rfl (ro_neq rfl rfl rfl) rfl ?_
          refine ops_split rfl rfl rfl (fun hg114 => ?_) (fun hg114 => ?_)
          · replace hg114 := of_decide_eq_true hg114
            refine ops_skip' rfl rfl ?_
            refine ops_skip' rfl rfl ?_
            refine ops_skip' rfl rfl ?_
            have hne : (pSplit (pJoin al)).1 ≠ al := fun h => absurd (pSplit_right (pJoin al) bad (by rw [h, hal]; simp)) (by rw [hc101]; decide)
            try rw [decide_eq_false hne]
            refine ops_skip' rfl rfl ?_
            refine ops_ro' rfl (ro_pick rfl rfl) rfl ?_
            refine ops_ro' rfl (ro_move (v := .bool true) rfl) rfl ?_
            refine ops_eff' rfl (eff_call Tryd.call19 rfl rfl (by repeat (first | exact Split.nil _ | apply Split.cons 0 rfl | apply Split.cons 1 rfl | apply Split.cons 2 rfl | apply Split.cons 3 rfl | apply Split.cons 4 rfl | apply Split.cons 5 rfl | apply Split.cons 6 rfl | apply Split.cons 7 rfl | apply Split.cons 8 rfl | apply Split.cons 9 rfl | apply Split.cons 10 rfl | apply Split.cons 11 rfl)) (known13_spec V hM)) rfl ?_
            rintro _ H' ⟨_, ⟨rfl, rfl⟩, hH⟩
            simp only [List.cons_append, List.nil_append, List.eraseIdx_cons_zero, List.eraseIdx_cons_succ, List.set_cons_zero, List.set_cons_succ] at hH
            subst hH
            refine ops_ro' rfl (ro_pick rfl rfl) rfl ?_
            refine ops_ro' rfl (ro_assign rfl) rfl ?_
            refine ops_nil ?_
            refine Then_normal ?_
            refine wp_ret' ?_
            refine' doneS_ret (res1 rfl rfl) ?_ ?_
            rotate_left 1
            exact ⟨rfl, rfl⟩
            exact (SubH.cons 0 rfl (SubH.nil _))
          · replace hg114 := of_decide_eq_false hg114
            refine ops_ro' rfl (ro_move rfl) rfl ?_
            refine ops_ro' rfl (ro_move rfl) rfl ?_
            refine ops_eff' rfl (eff_callM (Pre := []) Tryd.call15 rfl rfl (Split.nil _) (ktexts_spec _ (pSplit (pJoin al)).1 al _ _ _ _ (by first | exact (Vw.pick 0 rfl (vw_subF Vw.row Tx.len (Nat.zero_le _) hkl hsh.2)) | exact (Vw.pick 1 rfl (vw_subF Vw.row Tx.len (Nat.zero_le _) hkl hsh.2)) | exact (Vw.pick 2 rfl (vw_subF Vw.row Tx.len (Nat.zero_le _) hkl hsh.2)) | exact (Vw.pick 3 rfl (vw_subF Vw.row Tx.len (Nat.zero_le _) hkl hsh.2)) | exact (Vw.pick 4 rfl (vw_subF Vw.row Tx.len (Nat.zero_le _) hkl hsh.2)) | exact (Vw.pick 5 rfl (vw_subF Vw.row Tx.len (Nat.zero_le _) hkl hsh.2)) | exact (Vw.pick 6 rfl (vw_subF Vw.row Tx.len (Nat.zero_le _) hkl hsh.2)) | exact (Vw.pick 7 rfl (vw_subF Vw.row Tx.len (Nat.zero_le _) hkl hsh.2)) | exact (Vw.pick 8 rfl (vw_subF Vw.row Tx.len (Nat.zero_le _) hkl hsh.2)) | exact (Vw.pick 0 rfl (vw_subF Vw.row Tx.len hkl (Nat.le_refl _) hsh.2)) | exact (Vw.pick 1 rfl (vw_subF Vw.row Tx.len hkl (Nat.le_refl _) hsh.2)) | exact (Vw.pick 2 rfl (vw_subF Vw.row Tx.len hkl (Nat.le_refl _) hsh.2)) | exact (Vw.pick 3 rfl (vw_subF Vw.row Tx.len hkl (Nat.le_refl _) hsh.2)) | exact (Vw.pick 4 rfl (vw_subF Vw.row Tx.len hkl (Nat.le_refl _) hsh.2)) | exact (Vw.pick 5 rfl (vw_subF Vw.row Tx.len hkl (Nat.le_refl _) hsh.2)) | exact (Vw.pick 6 rfl (vw_subF Vw.row Tx.len hkl (Nat.le_refl _) hsh.2)) | exact (Vw.pick 7 rfl (vw_subF Vw.row Tx.len hkl (Nat.le_refl _) hsh.2)) | exact (Vw.pick 8 rfl (vw_subF Vw.row Tx.len hkl (Nat.le_refl _) hsh.2)) | exact Vw.pick 0 rfl Vw.row | exact Vw.pick 1 rfl Vw.row | exact Vw.pick 2 rfl Vw.row | exact Vw.pick 3 rfl Vw.row | exact Vw.pick 4 rfl Vw.row | exact Vw.pick 5 rfl Vw.row | exact Vw.pick 6 rfl Vw.row | exact Vw.pick 7 rfl Vw.row | exact Vw.pick 8 rfl Vw.row | exact Vw.nil _ | exact Vw.empty _ _) (by first | exact (Vw.pick 0 rfl (vw_subF Vw.row Tx.len (Nat.zero_le _) hkl hsh.2)) | exact (Vw.pick 1 rfl (vw_subF Vw.row Tx.len (Nat.zero_le _) hkl hsh.2)) | exact (Vw.pick 2 rfl (vw_subF Vw.row Tx.len (Nat.zero_le _) hkl hsh.2)) | exact (Vw.pick 3 rfl (vw_subF Vw.row Tx.len (Nat.zero_le _) hkl hsh.2)) | exact (Vw.pick 4 rfl (vw_subF Vw.row Tx.len (Nat.zero_le _) hkl hsh.2)) | exact (Vw.pick 5 rfl (vw_subF Vw.row Tx.len (Nat.zero_le _) hkl hsh.2)) | exact (Vw.pick 6 rfl (vw_subF Vw.row Tx.len (Nat.zero_le _) hkl hsh.2)) | exact (Vw.pick 7 rfl (vw_subF Vw.row Tx.len (Nat.zero_le _) hkl hsh.2)) | exact (Vw.pick 8 rfl (vw_subF Vw.row Tx.len (Nat.zero_le _) hkl hsh.2)) | exact (Vw.pick 0 rfl (vw_subF Vw.row Tx.len hkl (Nat.le_refl _) hsh.2)) | exact (Vw.pick 1 rfl (vw_subF Vw.row Tx.len hkl (Nat.le_refl _) hsh.2)) | exact (Vw.pick 2 rfl (vw_subF Vw.row Tx.len hkl (Nat.le_refl _) hsh.2)) | exact (Vw.pick 3 rfl (vw_subF Vw.row Tx.len hkl (Nat.le_refl _) hsh.2)) | exact (Vw.pick 4 rfl (vw_subF Vw.row Tx.len hkl (Nat.le_refl _) hsh.2)) | exact (Vw.pick 5 rfl (vw_subF Vw.row Tx.len hkl (Nat.le_refl _) hsh.2)) | exact (Vw.pick 6 rfl (vw_subF Vw.row Tx.len hkl (Nat.le_refl _) hsh.2)) | exact (Vw.pick 7 rfl (vw_subF Vw.row Tx.len hkl (Nat.le_refl _) hsh.2)) | exact (Vw.pick 8 rfl (vw_subF Vw.row Tx.len hkl (Nat.le_refl _) hsh.2)) | exact Vw.pick 0 rfl Vw.row | exact Vw.pick 1 rfl Vw.row | exact Vw.pick 2 rfl Vw.row | exact Vw.pick 3 rfl Vw.row | exact Vw.pick 4 rfl Vw.row | exact Vw.pick 5 rfl Vw.row | exact Vw.pick 6 rfl Vw.row | exact Vw.pick 7 rfl Vw.row | exact Vw.pick 8 rfl Vw.row | exact Vw.nil _ | exact Vw.empty _ _) (by omega))) rfl ?_
            rintro _ H' ⟨_, ⟨rfl, rfl⟩, hH⟩
            simp only [List.cons_append, List.nil_append, List.eraseIdx_cons_zero, List.eraseIdx_cons_succ, List.set_cons_zero, List.set_cons_succ] at hH
            subst hH
            have hne : (pSplit (pJoin al)).1 ≠ al := fun h => absurd (pSplit_right (pJoin al) bad (by rw [h, hal]; simp)) (by rw [hc101]; decide)
            try rw [decide_eq_false hne]
            refine ops_ro' rfl (ro_not rfl rfl) rfl ?_
            refine ops_ro' rfl (ro_pick rfl rfl) rfl ?_
            refine ops_ro' rfl (ro_move (v := .bool true) rfl) rfl ?_
            refine ops_eff' rfl (eff_call Tryd.call19 rfl rfl (by repeat (first | exact Split.nil _ | apply Split.cons 0 rfl | apply Split.cons 1 rfl | apply Split.cons 2 rfl | apply Split.cons 3 rfl | apply Split.cons 4 rfl | apply Split.cons 5 rfl | apply Split.cons 6 rfl | apply Split.cons 7 rfl | apply Split.cons 8 rfl | apply Split.cons 9 rfl | apply Split.cons 10 rfl | apply Split.cons 11 rfl)) (known13_spec V hM)) rfl ?_
            rintro _ H' ⟨_, ⟨rfl, rfl⟩, hH⟩
            simp only [List.cons_append, List.nil_append, List.eraseIdx_cons_zero, List.eraseIdx_cons_succ, List.set_cons_zero, List.set_cons_succ] at hH
            subst hH
            refine ops_ro' rfl (ro_pick rfl rfl) rfl ?_
            refine ops_ro' rfl (ro_assign rfl) rfl ?_
            refine ops_nil ?_
            refine Then_normal ?_
            refine wp_ret' ?_
            refine' doneS_ret (res1 rfl rfl) ?_ ?_
            rotate_left 1
            exact ⟨rfl, rfl⟩
            exact (SubH.cons 0 rfl (SubH.nil _))

end Go.Proofs.YtigaolglnnjnmaaDoor
