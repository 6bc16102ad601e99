/-
  Split, Join, Clean, by both.
-/
import Derived.Test.YtigaolglnnjnmaaDoorPath
namespace Go.Proofs.YtigaolglnnjnmaaDoor
open Go.Sx
set_option linter.unusedVariables false
set_option linter.unusedSimpArgs false
set_option maxRecDepth 100000
set_option maxHeartbeats 4000000

/-- a text is cut at c: `out` is what was cut off, at fr the next part begins, i is where the look is -/
def Pst (c : UInt8) (s : List UInt8) (out : List (List UInt8)) (fr i : Nat) : Prop := fr ≤ i ∧ i ≤ s.length ∧ parts c s = out ++ pre ((s.drop fr).take (i - fr)) (parts c (s.drop i))
theorem Pst.init (c : UInt8) (s : List UInt8) : Pst c s [] 0 0 := ⟨Nat.le_refl _, Nat.zero_le _, by simp [pre_nil (parts_ne c s)]⟩
theorem Pst.go {c : UInt8} {s : List UInt8} {out : List (List UInt8)} {fr i : Nat} (h : Pst c s out fr i) (hi : i < s.length) (hc : s[i] ≠ c) : Pst c s out fr (i + 1) := by
  obtain ⟨h1, h2, h3⟩ := h
  refine ⟨by omega, by omega, ?_⟩
  rw [h3, List.drop_eq_getElem_cons hi, parts_cons hc, pre_pre]
  congr 1
  congr 1
  rw [show i + 1 - fr = (i - fr) + 1 by omega, List.take_succ_eq_append_getElem (by rw [List.length_drop]; omega)]
  congr 1
  rw [List.getElem_drop]
  congr 2; omega
theorem Pst.cut {c : UInt8} {s : List UInt8} {out : List (List UInt8)} {fr i : Nat} (h : Pst c s out fr i) (hc : i = s.length ∨ ∃ hi : i < s.length, s[i] = c) :
    (s.drop fr).take (i - fr) ∈ parts c s ∧ (i + 1 ≤ s.length → Pst c s (out ++ [(s.drop fr).take (i - fr)]) (i + 1) (i + 1)) ∧ (i + 1 = s.length + 1 → parts c s = out ++ [(s.drop fr).take (i - fr)]) := by
  obtain ⟨h1, h2, h3⟩ := h
  rcases hc with hc | ⟨hi, hc⟩
  · have e : s.drop i = [] := List.drop_eq_nil_of_le (by omega)
    rw [e] at h3
    have h4 : parts c s = out ++ [(s.drop fr).take (i - fr)] := by rw [h3]; simp [parts, pre]
    exact ⟨by rw [h4]; simp, fun hh => by omega, fun _ => h4⟩
  · rw [List.drop_eq_getElem_cons hi, hc, parts_hit] at h3
    have h4 : parts c s = out ++ ((s.drop fr).take (i - fr) :: parts c (s.drop (i + 1))) := by rw [h3]; simp [pre]
    refine ⟨by rw [h4]; simp, fun hh => ⟨Nat.le_refl _, hh, ?_⟩, fun hh => by omega⟩
    rw [h4]; simp [pre_nil (parts_ne c _)]


theorem pSplit_long {s : List UInt8} (h : 200 < s.length) : pSplit s = ([], 3) := by unfold pSplit; rw [if_pos h]
theorem ptSplit_spec (V : HProp) (hM : Ml V) (s : List UInt8) (hs : s.length ≤ 1000000) : Tri Tryd.prog 11 [.string (str s)] [V] (fun v H' => ∃ K, (∃ p c, v = .tuple #[.slice p (pSplit s).1.length c, .int .i64 (pSplit s).2] ∧ K = [row 9 1 (.slice p (pSplit s).1.length c) (pSplit s).1.length (txs (pSplit s).1)]) ∧ H' = K ++ [V]) := by
  refine tri_of_wpS Tryd.func11 rfl Tryd.ntmps11 (by simp) ?_
  refine wp_seq' ?_
  refine wp_region' ?_
  refine ops_ro' rfl (ro_assign rfl) rfl ?_
  refine ops_ro' rfl (ro_assign rfl) rfl ?_
  refine ops_nil ?_
  refine Then_normal ?_
  refine wp_seq' ?_
  refine wp_seq' ?_
  refine wp_region' ?_
  refine ops_ro' rfl (ro_move rfl) rfl ?_
  refine ops_ro' rfl (ro_lenS (t' := 0) Tryd.underlying9 rfl) rfl ?_
  refine ops_ro' rfl (ro_gtr rfl rfl rfl) rfl ?_
  refine ops_nil ?_
  refine Then_normal ?_
  refine wp_cond' rfl (fun hc9 => ?_) (fun hc9 => ?_)
  · replace hc9 := of_decide_eq_true hc9
    refine wp_seq' ?_
    refine wp_region' ?_
    refine ops_ro' rfl (ro_assign rfl) rfl ?_
    refine ops_ro' rfl (ro_assign rfl) rfl ?_
    refine ops_nil ?_
    refine Then_normal ?_
    refine wp_ret' ?_
    refine Then_ret ?_
    refine' doneS_ret (res2 rfl rfl rfl) ?_ ?_
    rotate_left 1
    exact ⟨_, ⟨none, 0, by rw [pSplit_long (by omega)]; first | done | exact rfl, by rw [pSplit_long (by omega)]; first | done | exact rfl⟩, rfl⟩
    exact (SubH.rown (SubH.cons 0 rfl (SubH.nil _)))
  · replace hc9 := of_decide_eq_false hc9
    refine wp_skip' ?_
    refine Then_normal ?_
    refine wp_seq' ?_
    have hcut := parts_length_le 47 s
    refine wp_region' ?_
    refine ops_ro' rfl (ro_assign rfl) rfl ?_
    refine ops_nil ?_
    refine Then_normal ?_
    refine wp_seq' ?_
    refine wp_seq' ?_
    refine wp_region' ?_
    refine ops_ro' rfl (ro_move rfl) rfl ?_
    refine ops_eff' rfl (eff_callM (Pre := []) Tryd.call34 rfl rfl (Split.nil _) (split_spec _ (Ml.pick 0 rfl hM) s 47 (by omega))) rfl ?_
    rintro _ H' ⟨_, ⟨bq, rfl, rfl⟩, hH⟩
    simp only [List.cons_append, List.nil_append, List.eraseIdx_cons_zero, List.eraseIdx_cons_succ, List.set_cons_zero, List.set_cons_succ] at hH
    subst hH
    refine ops_ro' rfl (ro_sliceLen Tryd.underlying24 rfl) rfl ?_
    refine ops_ro' rfl (ro_move rfl) rfl ?_
    refine ops_nil ?_
    refine Then_normal ?_
    refine wp_block' ?_
    refine wp_loopK 5 (fun m Δ LL => ∃ (i : Nat) (out : List (List UInt8)) (p4 : Option Addr) (c4 : Nat), (i + m = (parts 47 s).length ∧ pRun (some []) ((parts 47 s).take i) = some out ∧ out.length ≤ i) ∧ Δ = [(4, .slice p4 out.length c4), (13, .int .i64 (i : Nat))] ∧ LL = [row 9 1 (.slice p4 out.length c4) out.length (txs out), row 9 1 (.slice (some ⟨bq, 0, none⟩) (parts 47 s).length (parts 47 s).length) (parts 47 s).length (txs (parts 47 s)), V]) (m := (parts 47 s).length) (Has.cons (k := 11) rfl (Has.cons (k := 12) rfl (Has.nil _))) (kept ⟨0, [], none, 0, ⟨by omega, rfl, by simp⟩, rfl, rfl⟩ (by repeat (first | exact Has.nil _ | refine Has.cons rfl ?_)) (by repeat (first | exact Has.nil _ | refine Has.cons rfl ?_)) (by repeat (first | exact SubH.nil _ | refine SubH.cons 0 rfl ?_ | refine SubH.cons 1 rfl ?_ | refine SubH.cons 2 rfl ?_ | refine SubH.cons 3 rfl ?_ | refine SubH.cons 4 rfl ?_ | refine SubH.cons 5 rfl ?_ | refine SubH.cons 6 rfl ?_ | refine SubH.cons 7 rfl ?_ | refine SubH.cons 8 rfl ?_ | refine SubH.cons 9 rfl ?_ | refine SubH.cons 10 rfl ?_ | refine SubH.cons 11 rfl ?_ | refine SubH.cons 12 rfl ?_ | refine SubH.cons 13 rfl ?_ | refine SubH.rown ?_))) ?_
    rintro m Δ LL ⟨i, out, p4, c4, ⟨hm, hr, hol⟩, rfl, rfl⟩
    simp only [List.cons_append, List.nil_append]
    refine wp_seq' ?_
    refine wp_region' ?_
    refine ops_ro' rfl (ro_lss rfl rfl rfl) rfl ?_
    refine ops_nil ?_
    refine Then_normal ?_
    refine wp_seq' ?_
    refine wp_cond' rfl (fun hc14 => ?_) (fun hc14 => ?_)
    · replace hc14 := of_decide_eq_true hc14
      have hi : i < (parts 47 s).length := by omega
      have hpl := part_le hi
      refine wp_skip' ?_
      refine Then_normal ?_
      refine wp_seq' ?_
      refine wp_block' ?_
      refine wp_seq' ?_
      refine wp_region' ?_
      refine ops_ro' rfl (ro_indexSlice sl24 rfl rfl rfl (by omega)) rfl ?_
      refine ops_ro' rfl (ro_load sc9 rfl (Rd.pick 1 rfl (Rd.elem (j := 0) (RdN.row) Tx.len (List.getElem?_eq_getElem hi) rfl))) rfl ?_
      refine ops_ro' rfl (ro_assign rfl) rfl ?_
      refine ops_nil ?_
      refine Then_normal ?_
      refine wp_block' ?_
      refine wp_seq' ?_
      refine wp_region' ?_
      refine ops_ro' rfl (ro_move rfl) rfl ?_
      refine ops_ro' rfl (ro_eqlS (b := []) rfl rfl rfl) rfl ?_
      refine ops_split rfl rfl rfl (fun hg24 => ?_) (fun hg24 => ?_)
      · replace hg24 := of_decide_eq_true hg24
        refine ops_skip' rfl rfl ?_
        refine ops_skip' rfl rfl ?_
        refine ops_ro' rfl (ro_pick rfl rfl) rfl ?_
        refine ops_ro' rfl (ro_assign rfl) rfl ?_
        refine ops_nil ?_
        refine Then_normal ?_
        refine wp_condT rfl ?_
        refine wp_skip' ?_
        refine InBlock_normal ?_
        refine InBlock_normal ?_
        refine Then_normal ?_
        refine wp_region' ?_
        refine ops_ro' rfl (ro_add rfl rfl (wrap_inc (by omega))) rfl ?_
        refine ops_ro' rfl (ro_move rfl) rfl ?_
        refine ops_nil ?_
        refine Then_normal ?_
        refine back (m - 1) (by omega) (kept ⟨i + 1, out, p4, c4, ⟨by omega, by rw [run_nx hi hr]; first | exact pStep_dot (.inl hg24) | exact pStep_dot (.inr hc21), by omega⟩, rfl, rfl⟩ ?_ ?_ ?_)
        · exact (by repeat (first | exact Has.nil _ | refine Has.cons rfl ?_))
        · exact (by repeat (first | exact Has.nil _ | refine Has.cons rfl ?_))
        · exact SubH.refl _
      · replace hg24 := of_decide_eq_false hg24
        refine ops_ro' rfl (ro_move rfl) rfl ?_
        refine ops_ro' rfl (ro_eqlS (b := [46]) rfl rfl rfl) rfl ?_
        refine ops_ro' rfl (ro_pick rfl rfl) rfl ?_
        refine ops_ro' rfl (ro_assign rfl) rfl ?_
        refine ops_nil ?_
        refine Then_normal ?_
        refine wp_cond' rfl (fun hc21 => ?_) (fun hc21 => ?_)
        · replace hc21 := of_decide_eq_true hc21
          refine wp_skip' ?_
          refine InBlock_normal ?_
          refine InBlock_normal ?_
          refine Then_normal ?_
          refine wp_region' ?_
          refine ops_ro' rfl (ro_add rfl rfl (wrap_inc (by omega))) rfl ?_
          refine ops_ro' rfl (ro_move rfl) rfl ?_
          refine ops_nil ?_
          refine Then_normal ?_
          refine back (m - 1) (by omega) (kept ⟨i + 1, out, p4, c4, ⟨by omega, by rw [run_nx hi hr]; first | exact pStep_dot (.inl hg24) | exact pStep_dot (.inr hc21), by omega⟩, rfl, rfl⟩ ?_ ?_ ?_)
          · exact (by repeat (first | exact Has.nil _ | refine Has.cons rfl ?_))
          · exact (by repeat (first | exact Has.nil _ | refine Has.cons rfl ?_))
          · exact SubH.refl _
        · replace hc21 := of_decide_eq_false hc21
          refine wp_seq' ?_
          refine wp_region' ?_
          refine ops_ro' rfl (ro_move rfl) rfl ?_
          refine ops_ro' rfl (ro_eqlS (b := [46, 46]) rfl rfl rfl) rfl ?_
          refine ops_ro' rfl (ro_assign rfl) rfl ?_
          refine ops_nil ?_
          refine Then_normal ?_
          refine wp_cond' rfl (fun hc28 => ?_) (fun hc28 => ?_)
          · replace hc28 := of_decide_eq_true hc28
            refine wp_region' ?_
            refine ops_ro' rfl (ro_move rfl) rfl ?_
            refine ops_ro' rfl (ro_move rfl) rfl ?_
            refine ops_ro' rfl (ro_sliceLen Tryd.underlying24 rfl) rfl ?_
            refine ops_ro' rfl (ro_sub rfl rfl (wrap_i64_in (by omega) (by omega))) rfl ?_
            refine ops_ro' rfl (ro_max rfl rfl (show (if (0 : Int) > ((out.length : Int) - 1) then (0 : Int) else ((out.length : Int) - 1)) = ((out.length - 1 : Nat) : Int) by split <;> omega)) rfl ?_
            refine ops_eff' rfl (eff_trunc 0 sl24 rfl rfl (bnd_of rfl rfl) (by omega)) rfl ?_
            rintro _ _ ⟨rfl, rfl⟩
            simp only [List.set_cons_zero, List.set_cons_succ]
            rw [trunc_tx, len_last]
            refine ops_ro' rfl (ro_assign rfl) rfl ?_
            refine ops_nil ?_
            refine InBlock_normal ?_
            refine InBlock_normal ?_
            refine Then_normal ?_
            refine wp_region' ?_
            refine ops_ro' rfl (ro_add rfl rfl (wrap_inc (by omega))) rfl ?_
            refine ops_ro' rfl (ro_move rfl) rfl ?_
            refine ops_nil ?_
            refine Then_normal ?_
            refine back (m - 1) (by omega) (kept ⟨i + 1, out.dropLast, p4, c4, ⟨by omega, by rw [run_nx hi hr, hc28]; exact pStep_up out, by simp; omega⟩, rfl, rfl⟩ ?_ ?_ ?_)
            · exact (by repeat (first | exact Has.nil _ | refine Has.cons rfl ?_))
            · exact (by repeat (first | exact Has.nil _ | refine Has.cons rfl ?_))
            · exact SubH.refl _
          · replace hc28 := of_decide_eq_false hc28
            refine wp_seq' ?_
            refine wp_region' ?_
            refine ops_ro' rfl (ro_move rfl) rfl ?_
            refine ops_eff' rfl (eff_call Tryd.call16 rfl rfl (by repeat (first | exact Split.nil _ | apply Split.cons 0 rfl | apply Split.cons 1 rfl | apply Split.cons 2 rfl | apply Split.cons 3 rfl | apply Split.cons 4 rfl | apply Split.cons 5 rfl | apply Split.cons 6 rfl | apply Split.cons 7 rfl | apply Split.cons 8 rfl | apply Split.cons 9 rfl | apply Split.cons 10 rfl | apply Split.cons 11 rfl)) (ptRight_spec _ (by first | omega | (have := part_le hi; omega)))) rfl ?_
            rintro _ H' ⟨_, ⟨rfl, rfl⟩, hH⟩
            simp only [List.cons_append, List.nil_append, List.eraseIdx_cons_zero, List.eraseIdx_cons_succ, List.set_cons_zero, List.set_cons_succ] at hH
            subst hH
            refine ops_ro' rfl (ro_not rfl rfl) rfl ?_
            refine ops_ro' rfl (ro_assign rfl) rfl ?_
            refine ops_nil ?_
            refine Then_normal ?_
            refine wp_cond' rfl (fun hc37 => ?_) (fun hc37 => ?_)
            · simp only [Bool.and_eq_true, decide_eq_true_eq, Bool.not_eq_true', decide_eq_false_iff_not, bne_iff_ne, ne_eq] at hc37
              refine wp_seq' ?_
              refine wp_region' ?_
              refine ops_ro' rfl (ro_assign rfl) rfl ?_
              refine ops_ro' rfl (ro_assign rfl) rfl ?_
              refine ops_nil ?_
              refine Then_normal ?_
              refine wp_ret' ?_
              refine InBlock_ret ?_
              refine InBlock_ret ?_
              refine Then_ret ?_
              refine Then_ret ?_
              refine InBlock_ret ?_
              refine Then_ret ?_
              refine' doneS_ret (res2 rfl rfl rfl) ?_ ?_
              rotate_left 1
              exact ⟨_, ⟨none, 0, by rw [pSplit_none (by omega) (run_bad hi hr (pStep_bad out (by rintro (h | h); exact hg24 h; exact hc21 h) hc28 (by simpa using hc37)))]; first | done | exact rfl, by rw [pSplit_none (by omega) (run_bad hi hr (pStep_bad out (by rintro (h | h); exact hg24 h; exact hc21 h) hc28 (by simpa using hc37)))]; first | done | exact rfl⟩, rfl⟩
              exact (SubH.rown (SubH.cons 2 rfl (SubH.nil _)))
            · simp only [Bool.and_eq_false_iff, decide_eq_false_iff_not, Bool.not_eq_false', decide_eq_true_eq] at hc37
              refine wp_region' ?_
              refine ops_ro' rfl (ro_move rfl) rfl ?_
              refine ops_ro' rfl (ro_move rfl) rfl ?_
              refine ops_eff' rfl (eff_lit sl24 rfl (sbld (cs := [_]) [(.string ByteArray.empty)] sl24 (by decide) (by kernel_rfl) rfl) rfl (by decide)) rfl ?_
              rintro _ _ ⟨b19, rfl, rfl⟩
              refine ops_eff' rfl (eff_appF (f := Tx.cs) (l2 := [(parts 47 s)[i]]) 1 sl24 (.inl ⟨9, Tryd.underlying24⟩) rfl rfl rfl (by first | exact Src.flatv Tx.len Tx.one (Vw.pick 0 rfl Vw.row) | exact Src.flatv Tx.len Tx.one (Vw.pick 1 rfl Vw.row) | exact Src.flatv Tx.len Tx.one (Vw.pick 2 rfl Vw.row) | exact Src.flatv Tx.len Tx.one (Vw.pick 3 rfl Vw.row) | exact Src.flatv Tx.len Tx.one (Vw.pick 4 rfl Vw.row) | exact Src.flatv Tx.len Tx.one (Vw.pick 5 rfl Vw.row) | exact Src.flatv Tx.len Tx.one (Vw.pick 6 rfl Vw.row) | exact Src.flatv Tx.len Tx.one (Vw.pick 7 rfl Vw.row) | exact Src.flatv Tx.len Tx.one (Vw.pick 8 rfl Vw.row) | exact Src.flatv Tx.len Tx.one (Vw.pick 9 rfl Vw.row)) (by simp only [List.length_cons, List.length_nil]; omega) (by simp only [List.length_cons, List.length_nil]; omega)) rfl ?_
              rintro _ _ ⟨p20, c20, rfl, hn20, rfl⟩
              simp only [List.set_cons_zero, List.set_cons_succ]
              refine ops_ro' rfl (ro_assign rfl) rfl ?_
              refine ops_nil ?_
              refine InBlock_normal ?_
              refine InBlock_normal ?_
              refine Then_normal ?_
              refine wp_region' ?_
              refine ops_ro' rfl (ro_add rfl rfl (wrap_inc (by omega))) rfl ?_
              refine ops_ro' rfl (ro_move rfl) rfl ?_
              refine ops_nil ?_
              refine Then_normal ?_
              refine back (m - 1) (by omega) (kept ⟨i + 1, out ++ [(parts 47 s)[i]], p20, c20, ⟨by omega, by rw [run_nx hi hr]; exact pStep_ok out (by simpa using hc37), by simp; omega⟩, rfl, rfl⟩ ?_ ?_ ?_)
              · exact (by repeat (first | exact Has.nil _ | refine Has.cons rfl ?_))
              · exact (by repeat (first | exact Has.nil _ | refine Has.cons rfl ?_))
              · exact (SubH.cons 1 rfl (SubH.cons 1 rfl (SubH.cons 1 rfl (SubH.nil _))))
    · replace hc14 := of_decide_eq_false hc14
      rw [List.take_of_length_le (by omega)] at hr
      refine wp_exit' ?_
      refine Then_exit ?_
      refine Then_exit ?_
      refine InBlock_here ?_
      refine Then_normal ?_
      refine wp_seq' ?_
      refine wp_region' ?_
      refine ops_ro' rfl (ro_move rfl) rfl ?_
      refine ops_ro' rfl (ro_assign rfl) rfl ?_
      refine ops_ro' rfl (ro_assign rfl) rfl ?_
      refine ops_nil ?_
      refine Then_normal ?_
      refine wp_ret' ?_
      refine' doneS_ret (res2 rfl rfl rfl) ?_ ?_
      rotate_left 1
      exact ⟨_, ⟨p4, c4, by rw [pSplit_some (by omega) hr], by rw [pSplit_some (by omega) hr]⟩, rfl⟩
      exact (SubH.cons 0 rfl (SubH.cons 1 rfl (SubH.nil _)))
theorem qtSplit_spec (V : HProp) (s : List UInt8) (hs : s.length ≤ 1000000) : Tri Tryd.prog 12 [.string (str s)] [V] (fun v H' => ∃ K, (∃ p c, v = .tuple #[.slice p (pSplit s).1.length c, .int .i64 (pSplit s).2] ∧ K = [row 9 1 (.slice p (pSplit s).1.length c) (pSplit s).1.length (txs (pSplit s).1)]) ∧ H' = K ++ [V]) := by
  refine tri_of_wpS Tryd.func12 rfl Tryd.ntmps12 (by simp) ?_
  refine wp_seq' ?_
  refine wp_region' ?_
  refine ops_ro' rfl (ro_assign rfl) rfl ?_
  refine ops_ro' rfl (ro_assign rfl) rfl ?_
  refine ops_nil ?_
  refine Then_normal ?_
  refine wp_seq' ?_
  refine wp_seq' ?_
  refine wp_region' ?_
  refine ops_ro' rfl (ro_move rfl) rfl ?_
  refine ops_ro' rfl (ro_lenS (t' := 0) Tryd.underlying9 rfl) rfl ?_
  refine ops_ro' rfl (ro_gtr rfl rfl rfl) rfl ?_
  refine ops_nil ?_
  refine Then_normal ?_
  refine wp_cond' rfl (fun hc10 => ?_) (fun hc10 => ?_)
  · replace hc10 := of_decide_eq_true hc10
    refine wp_seq' ?_
    refine wp_region' ?_
    refine ops_ro' rfl (ro_assign rfl) rfl ?_
    refine ops_ro' rfl (ro_assign rfl) rfl ?_
    refine ops_nil ?_
    refine Then_normal ?_
    refine wp_ret' ?_
    refine Then_ret ?_
    refine' doneS_ret (res2 rfl rfl rfl) ?_ ?_
    rotate_left 1
    exact ⟨_, ⟨none, 0, by rw [pSplit_long (by omega)]; first | done | exact rfl, by rw [pSplit_long (by omega)]; first | done | exact rfl⟩, rfl⟩
    exact (SubH.rown (SubH.cons 0 rfl (SubH.nil _)))
  · replace hc10 := of_decide_eq_false hc10
    refine wp_skip' ?_
    refine Then_normal ?_
    refine wp_seq' ?_
    refine wp_region' ?_
    refine ops_ro' rfl (ro_assign rfl) rfl ?_
    refine ops_nil ?_
    refine Then_normal ?_
    refine wp_seq' ?_
    refine wp_region' ?_
    refine ops_ro' rfl (ro_assign rfl) rfl ?_
    refine ops_nil ?_
    refine Then_normal ?_
    refine wp_seq' ?_
    refine wp_seq' ?_
    refine wp_region' ?_
    refine ops_ro' rfl (ro_assign rfl) rfl ?_
    refine ops_nil ?_
    refine Then_normal ?_
    refine wp_block' ?_
    refine wp_loopK 6 (fun m Δ LL => ∃ (i fr : Nat) (prt out : List (List UInt8)) (p4 : Option Addr) (c4 : Nat), (i + m = s.length + 1 ∧ pRun (some []) prt = some out ∧ out.length ≤ i ∧ (i ≤ s.length → Pst 47 s prt fr i) ∧ (i = s.length + 1 → parts 47 s = prt)) ∧ Δ = [(4, .slice p4 out.length c4), (5, .int .i64 (fr : Nat)), (6, .int .i64 (i : Nat))] ∧ LL = [row 9 1 (.slice p4 out.length c4) out.length (txs out), V]) (m := s.length + 1) (Has.cons (k := 0) rfl (Has.nil _)) (kept ⟨0, 0, [], [], none, 0, ⟨by omega, rfl, by simp, fun _ => Pst.init 47 s, fun h => by omega⟩, rfl, rfl⟩ (by repeat (first | exact Has.nil _ | refine Has.cons rfl ?_)) (by repeat (first | exact Has.nil _ | refine Has.cons rfl ?_)) (by repeat (first | exact SubH.nil _ | refine SubH.cons 0 rfl ?_ | refine SubH.cons 1 rfl ?_ | refine SubH.cons 2 rfl ?_ | refine SubH.cons 3 rfl ?_ | refine SubH.cons 4 rfl ?_ | refine SubH.cons 5 rfl ?_ | refine SubH.cons 6 rfl ?_ | refine SubH.cons 7 rfl ?_ | refine SubH.cons 8 rfl ?_ | refine SubH.cons 9 rfl ?_ | refine SubH.cons 10 rfl ?_ | refine SubH.cons 11 rfl ?_ | refine SubH.cons 12 rfl ?_ | refine SubH.cons 13 rfl ?_ | refine SubH.rown ?_))) ?_
    rintro m Δ LL ⟨i, fr, prt, out, p4, c4, ⟨hm, hr, hol, hP, hE⟩, rfl, rfl⟩
    simp only [List.cons_append, List.nil_append]
    refine wp_seq' ?_
    refine wp_seq' ?_
    refine wp_region' ?_
    refine ops_ro' rfl (ro_move rfl) rfl ?_
    refine ops_ro' rfl (ro_move rfl) rfl ?_
    refine ops_ro' rfl (ro_lenS (t' := 0) Tryd.underlying9 rfl) rfl ?_
    refine ops_ro' rfl (ro_leq rfl rfl rfl) rfl ?_
    refine ops_nil ?_
    refine Then_normal ?_
    refine wp_cond' rfl (fun hc14 => ?_) (fun hc14 => ?_)
    · replace hc14 := of_decide_eq_true hc14
      have hP' := hP (by omega)
      have hfi := hP'.1
      refine wp_skip' ?_
      refine Then_normal ?_
      refine wp_seq' ?_
      refine wp_block' ?_
      refine wp_seq' ?_
      refine wp_seq' ?_
      refine wp_region' ?_
      refine ops_ro' rfl (ro_move rfl) rfl ?_
      refine ops_ro' rfl (ro_move rfl) rfl ?_
      refine ops_ro' rfl (ro_lenS (t' := 0) Tryd.underlying9 rfl) rfl ?_
      refine ops_ro' rfl (ro_lss rfl rfl rfl) rfl ?_
      refine ops_split rfl rfl rfl (fun hg21 => ?_) (fun hg21 => ?_)
      · replace hg21 := of_decide_eq_true hg21
        refine ops_ro' rfl (ro_move rfl) rfl ?_
        refine ops_ro' rfl (ro_move rfl) rfl ?_
        refine ops_ro' rfl (ro_indexS Tryd.underlying9 rfl rfl rfl (by omega)) rfl ?_
        refine ops_ro' rfl (ro_neq rfl rfl rfl) rfl ?_
        refine ops_ro' rfl (ro_pick rfl rfl) rfl ?_
        refine ops_nil ?_
        refine Then_normal ?_
        refine wp_cond' rfl (fun hc26 => ?_) (fun hc26 => ?_)
        · replace hc26 := of_decide_eq_true hc26
          have hi2 : i < s.length := by omega
          have hne : s[i] ≠ 47 := fun h => hc26 (by rw [h]; rfl)
          refine wp_exit' ?_
          refine Then_exit ?_
          refine InBlock_here ?_
          refine Then_normal ?_
          refine wp_region' ?_
          refine ops_ro' rfl (ro_move rfl) rfl ?_
          refine ops_ro' rfl (ro_add rfl rfl (wrap_inc (by omega))) rfl ?_
          refine ops_ro' rfl (ro_assign rfl) rfl ?_
          refine ops_nil ?_
          refine Then_normal ?_
          refine back (m - 1) (by omega) (kept ⟨i + 1, fr, prt, out, p4, c4, ⟨by omega, hr, by omega, fun _ => hP'.go hi2 hne, fun h => by omega⟩, rfl, rfl⟩ ?_ ?_ ?_)
          · exact (by repeat (first | exact Has.nil _ | refine Has.cons rfl ?_))
          · exact (by repeat (first | exact Has.nil _ | refine Has.cons rfl ?_))
          · exact SubH.refl _
        · replace hc26 := of_decide_eq_false hc26
          refine wp_skip' ?_
          refine Then_normal ?_
          refine wp_seq' ?_
          have hcut := hP'.cut (by first | exact .inl (by omega) | exact .inr ⟨by omega, UInt8.toNat_inj.1 (show s[i].toNat = 47 by omega)⟩)
          refine wp_region' ?_
          refine ops_ro' rfl (ro_move rfl) rfl ?_
          refine ops_ro' rfl (ro_move rfl) rfl ?_
          refine ops_ro' rfl (ro_move rfl) rfl ?_
          refine ops_ro' rfl (ro_sliceS Tryd.underlying9 rfl (bnd_of rfl rfl) (bnd_of rfl rfl) (by omega) (by omega)) rfl ?_
          refine ops_ro' rfl (ro_assign rfl) rfl ?_
          refine ops_nil ?_
          refine Then_normal ?_
          refine wp_seq' ?_
          refine wp_region' ?_
          refine ops_ro' rfl (ro_move rfl) rfl ?_
          refine ops_ro' rfl (ro_add rfl rfl (wrap_inc (by omega))) rfl ?_
          refine ops_ro' rfl (ro_assign rfl) rfl ?_
          refine ops_nil ?_
          refine Then_normal ?_
          refine wp_block' ?_
          refine wp_seq' ?_
          refine wp_region' ?_
          refine ops_ro' rfl (ro_move rfl) rfl ?_
          refine ops_ro' rfl (ro_eqlS (b := []) rfl rfl rfl) rfl ?_
          refine ops_split rfl rfl rfl (fun hg42 => ?_) (fun hg42 => ?_)
          · replace hg42 := of_decide_eq_true hg42
            refine ops_skip' rfl rfl ?_
            refine ops_skip' rfl rfl ?_
            refine ops_ro' rfl (ro_pick rfl rfl) rfl ?_
            refine ops_ro' rfl (ro_assign rfl) rfl ?_
            refine ops_nil ?_
            refine Then_normal ?_
            refine wp_condT rfl ?_
            refine wp_skip' ?_
            refine InBlock_normal ?_
            refine InBlock_normal ?_
            refine Then_normal ?_
            refine wp_region' ?_
            refine ops_ro' rfl (ro_move rfl) rfl ?_
            refine ops_ro' rfl (ro_add rfl rfl (wrap_inc (by omega))) rfl ?_
            refine ops_ro' rfl (ro_assign rfl) rfl ?_
            refine ops_nil ?_
            refine Then_normal ?_
            refine back (m - 1) (by omega) (kept ⟨i + 1, i + 1, prt ++ [((s.drop fr).take (i - fr))], out, p4, c4, ⟨by omega, by rw [pRun_append, hr]; first | exact pStep_dot (.inl hg42) | exact pStep_dot (.inr hc39) | (rw [hc46]; exact (pStep_up out).trans (by rw [show out = [] from List.eq_nil_of_length_eq_zero (by omega)]; rfl)), by omega, hcut.2.1, hcut.2.2⟩, rfl, rfl⟩ ?_ ?_ ?_)
            · exact (by repeat (first | exact Has.nil _ | refine Has.cons rfl ?_))
            · exact (by repeat (first | exact Has.nil _ | refine Has.cons rfl ?_))
            · exact SubH.refl _
          · replace hg42 := of_decide_eq_false hg42
            refine ops_ro' rfl (ro_move rfl) rfl ?_
            refine ops_ro' rfl (ro_eqlS (b := [46]) rfl rfl rfl) rfl ?_
            refine ops_ro' rfl (ro_pick rfl rfl) rfl ?_
            refine ops_ro' rfl (ro_assign rfl) rfl ?_
            refine ops_nil ?_
            refine Then_normal ?_
            refine wp_cond' rfl (fun hc39 => ?_) (fun hc39 => ?_)
            · replace hc39 := of_decide_eq_true hc39
              refine wp_skip' ?_
              refine InBlock_normal ?_
              refine InBlock_normal ?_
              refine Then_normal ?_
              refine wp_region' ?_
              refine ops_ro' rfl (ro_move rfl) rfl ?_
              refine ops_ro' rfl (ro_add rfl rfl (wrap_inc (by omega))) rfl ?_
              refine ops_ro' rfl (ro_assign rfl) rfl ?_
              refine ops_nil ?_
              refine Then_normal ?_
              refine back (m - 1) (by omega) (kept ⟨i + 1, i + 1, prt ++ [((s.drop fr).take (i - fr))], out, p4, c4, ⟨by omega, by rw [pRun_append, hr]; first | exact pStep_dot (.inl hg42) | exact pStep_dot (.inr hc39) | (rw [hc46]; exact (pStep_up out).trans (by rw [show out = [] from List.eq_nil_of_length_eq_zero (by omega)]; rfl)), by omega, hcut.2.1, hcut.2.2⟩, rfl, rfl⟩ ?_ ?_ ?_)
              · exact (by repeat (first | exact Has.nil _ | refine Has.cons rfl ?_))
              · exact (by repeat (first | exact Has.nil _ | refine Has.cons rfl ?_))
              · exact SubH.refl _
            · replace hc39 := of_decide_eq_false hc39
              refine wp_seq' ?_
              refine wp_region' ?_
              refine ops_ro' rfl (ro_move rfl) rfl ?_
              refine ops_ro' rfl (ro_eqlS (b := [46, 46]) rfl rfl rfl) rfl ?_
              refine ops_ro' rfl (ro_assign rfl) rfl ?_
              refine ops_nil ?_
              refine Then_normal ?_
              refine wp_cond' rfl (fun hc46 => ?_) (fun hc46 => ?_)
              · replace hc46 := of_decide_eq_true hc46
                refine wp_seq' ?_
                refine wp_region' ?_
                refine ops_ro' rfl (ro_move rfl) rfl ?_
                refine ops_ro' rfl (ro_sliceLen Tryd.underlying24 rfl) rfl ?_
                refine ops_ro' rfl (ro_gtr rfl rfl rfl) rfl ?_
                refine ops_nil ?_
                refine Then_normal ?_
                refine wp_cond' rfl (fun hc51 => ?_) (fun hc51 => ?_)
                · replace hc51 := of_decide_eq_true hc51
                  refine wp_region' ?_
                  refine ops_ro' rfl (ro_move rfl) rfl ?_
                  refine ops_ro' rfl (ro_move rfl) rfl ?_
                  refine ops_ro' rfl (ro_sliceLen Tryd.underlying24 rfl) rfl ?_
                  refine ops_ro' rfl (ro_sub rfl rfl (show IntKind.i64.wrap ((out.length : Int) - 1) = ((out.length - 1 : Nat) : Int) by rw [wrap_i64_in (by omega) (by omega)]; omega)) rfl ?_
                  refine ops_eff' rfl (eff_trunc 0 sl24 rfl rfl (bnd_of rfl rfl) (by omega)) rfl ?_
                  rintro _ _ ⟨rfl, rfl⟩
                  simp only [List.set_cons_zero, List.set_cons_succ]
                  rw [trunc_tx, len_last]
                  refine ops_ro' rfl (ro_assign rfl) rfl ?_
                  refine ops_nil ?_
                  refine InBlock_normal ?_
                  refine InBlock_normal ?_
                  refine Then_normal ?_
                  refine wp_region' ?_
                  refine ops_ro' rfl (ro_move rfl) rfl ?_
                  refine ops_ro' rfl (ro_add rfl rfl (wrap_inc (by omega))) rfl ?_
                  refine ops_ro' rfl (ro_assign rfl) rfl ?_
                  refine ops_nil ?_
                  refine Then_normal ?_
                  refine back (m - 1) (by omega) (kept ⟨i + 1, i + 1, prt ++ [((s.drop fr).take (i - fr))], out.dropLast, p4, c4, ⟨by omega, by rw [pRun_append, hr, hc46]; exact pStep_up out, by simp; omega, hcut.2.1, hcut.2.2⟩, rfl, rfl⟩ ?_ ?_ ?_)
                  · exact (by repeat (first | exact Has.nil _ | refine Has.cons rfl ?_))
                  · exact (by repeat (first | exact Has.nil _ | refine Has.cons rfl ?_))
                  · exact SubH.refl _
                · replace hc51 := of_decide_eq_false hc51
                  refine wp_skip' ?_
                  refine InBlock_normal ?_
                  refine InBlock_normal ?_
                  refine Then_normal ?_
                  refine wp_region' ?_
                  refine ops_ro' rfl (ro_move rfl) rfl ?_
                  refine ops_ro' rfl (ro_add rfl rfl (wrap_inc (by omega))) rfl ?_
                  refine ops_ro' rfl (ro_assign rfl) rfl ?_
                  refine ops_nil ?_
                  refine Then_normal ?_
                  refine back (m - 1) (by omega) (kept ⟨i + 1, i + 1, prt ++ [((s.drop fr).take (i - fr))], out, p4, c4, ⟨by omega, by rw [pRun_append, hr]; first | exact pStep_dot (.inl hg42) | exact pStep_dot (.inr hc39) | (rw [hc46]; exact (pStep_up out).trans (by rw [show out = [] from List.eq_nil_of_length_eq_zero (by omega)]; rfl)), by omega, hcut.2.1, hcut.2.2⟩, rfl, rfl⟩ ?_ ?_ ?_)
                  · exact (by repeat (first | exact Has.nil _ | refine Has.cons rfl ?_))
                  · exact (by repeat (first | exact Has.nil _ | refine Has.cons rfl ?_))
                  · exact SubH.refl _
              · replace hc46 := of_decide_eq_false hc46
                refine wp_seq' ?_
                refine wp_region' ?_
                refine ops_ro' rfl (ro_move rfl) rfl ?_
                refine ops_eff' rfl (eff_call Tryd.call17 rfl rfl (by repeat (first | exact Split.nil _ | apply Split.cons 0 rfl | apply Split.cons 1 rfl | apply Split.cons 2 rfl | apply Split.cons 3 rfl | apply Split.cons 4 rfl | apply Split.cons 5 rfl | apply Split.cons 6 rfl | apply Split.cons 7 rfl | apply Split.cons 8 rfl | apply Split.cons 9 rfl | apply Split.cons 10 rfl | apply Split.cons 11 rfl)) (qtRight_spec ((s.drop fr).take (i - fr)) (by simp only [List.length_take]; omega))) rfl ?_
                rintro _ H' ⟨_, ⟨rfl, rfl⟩, hH⟩
                simp only [List.cons_append, List.nil_append, List.eraseIdx_cons_zero, List.eraseIdx_cons_succ, List.set_cons_zero, List.set_cons_succ] at hH
                subst hH
                refine ops_ro' rfl (ro_not rfl rfl) rfl ?_
                refine ops_ro' rfl (ro_assign rfl) rfl ?_
                refine ops_nil ?_
                refine Then_normal ?_
                refine wp_cond' rfl (fun hc57 => ?_) (fun hc57 => ?_)
                · simp only [Bool.and_eq_true, decide_eq_true_eq, Bool.not_eq_true', decide_eq_false_iff_not, bne_iff_ne, ne_eq] at hc57
                  refine wp_seq' ?_
                  refine wp_region' ?_
                  refine ops_ro' rfl (ro_assign rfl) rfl ?_
                  refine ops_ro' rfl (ro_assign rfl) rfl ?_
                  refine ops_nil ?_
                  refine Then_normal ?_
                  refine wp_ret' ?_
                  refine InBlock_ret ?_
                  refine InBlock_ret ?_
                  refine Then_ret ?_
                  refine Then_ret ?_
                  refine InBlock_ret ?_
                  refine Then_ret ?_
                  have HB : pRun (some []) (parts 47 s) = none := by
                    have hb := pStep_bad out (by rintro (h | h); exact hg42 h; exact hc39 h) hc46 (by simpa using hc57)
                    by_cases h : i = s.length
                    · rw [hcut.2.2 (by omega), pRun_append, hr]; exact hb
                    · obtain ⟨_, _, h3⟩ := hcut.2.1 (by omega)
                      rw [h3, pRun_append, pRun_append, hr]
                      show pRun (pStep (some out) _) _ = none
                      rw [hb, pRun_none]
                  refine' doneS_ret (res2 rfl rfl rfl) ?_ ?_
                  rotate_left 1
                  exact ⟨_, ⟨none, 0, by rw [pSplit_none (by omega) HB]; first | done | exact rfl, by rw [pSplit_none (by omega) HB]; first | done | exact rfl⟩, rfl⟩
                  exact (SubH.rown (SubH.cons 1 rfl (SubH.nil _)))
                · simp only [Bool.and_eq_false_iff, decide_eq_false_iff_not, Bool.not_eq_false', decide_eq_true_eq] at hc57
                  refine wp_region' ?_
                  refine ops_eff' rfl (eff_lit sl24 rfl (sbld (cs := []) [] sl24 (by decide) (by kernel_rfl) rfl) rfl (by decide)) rfl ?_
                  rintro _ _ ⟨b33, rfl, rfl⟩
                  refine ops_ro' rfl (ro_move rfl) rfl ?_
                  refine ops_eff' rfl (eff_appF (f := Tx.cs) (l := []) (l2 := out) 0 sl24 (.inl ⟨9, Tryd.underlying24⟩) rfl rfl rfl (by first | exact Src.flatv Tx.len Tx.one (Vw.pick 0 rfl Vw.row) | exact Src.flatv Tx.len Tx.one (Vw.pick 1 rfl Vw.row) | exact Src.flatv Tx.len Tx.one (Vw.pick 2 rfl Vw.row) | exact Src.flatv Tx.len Tx.one (Vw.pick 3 rfl Vw.row) | exact Src.flatv Tx.len Tx.one (Vw.pick 4 rfl Vw.row) | exact Src.flatv Tx.len Tx.one (Vw.pick 5 rfl Vw.row) | exact Src.flatv Tx.len Tx.one (Vw.pick 6 rfl Vw.row) | exact Src.flatv Tx.len Tx.one (Vw.pick 7 rfl Vw.row) | exact Src.flatv Tx.len Tx.one (Vw.pick 8 rfl Vw.row) | exact Src.flatv Tx.len Tx.one (Vw.pick 9 rfl Vw.row)) (by simp only [List.length_nil]; omega) (by simp only [List.length_nil]; omega)) rfl ?_
                  rintro _ _ ⟨p35, c35, rfl, hn35, rfl⟩
                  simp only [List.set_cons_zero, List.set_cons_succ, List.nil_append]
                  refine ops_ro' rfl (ro_move rfl) rfl ?_
                  refine ops_eff' rfl (eff_lit sl24 rfl (sbld (cs := [_]) [(.string ByteArray.empty)] sl24 (by decide) (by kernel_rfl) rfl) rfl (by decide)) rfl ?_
                  rintro _ _ ⟨b37, rfl, rfl⟩
                  refine ops_eff' rfl (eff_appF (f := Tx.cs) (l2 := [((s.drop fr).take (i - fr))]) 1 sl24 (.inl ⟨9, Tryd.underlying24⟩) rfl rfl rfl (by first | exact Src.flatv Tx.len Tx.one (Vw.pick 0 rfl Vw.row) | exact Src.flatv Tx.len Tx.one (Vw.pick 1 rfl Vw.row) | exact Src.flatv Tx.len Tx.one (Vw.pick 2 rfl Vw.row) | exact Src.flatv Tx.len Tx.one (Vw.pick 3 rfl Vw.row) | exact Src.flatv Tx.len Tx.one (Vw.pick 4 rfl Vw.row) | exact Src.flatv Tx.len Tx.one (Vw.pick 5 rfl Vw.row) | exact Src.flatv Tx.len Tx.one (Vw.pick 6 rfl Vw.row) | exact Src.flatv Tx.len Tx.one (Vw.pick 7 rfl Vw.row) | exact Src.flatv Tx.len Tx.one (Vw.pick 8 rfl Vw.row) | exact Src.flatv Tx.len Tx.one (Vw.pick 9 rfl Vw.row)) (by simp only [List.length_cons, List.length_nil]; omega) (by simp only [List.length_cons, List.length_nil]; omega)) rfl ?_
                  rintro _ _ ⟨p38, c38, rfl, hn38, rfl⟩
                  simp only [List.set_cons_zero, List.set_cons_succ]
                  refine ops_ro' rfl (ro_assign rfl) rfl ?_
                  refine ops_nil ?_
                  refine InBlock_normal ?_
                  refine InBlock_normal ?_
                  refine Then_normal ?_
                  refine wp_region' ?_
                  refine ops_ro' rfl (ro_move rfl) rfl ?_
                  refine ops_ro' rfl (ro_add rfl rfl (wrap_inc (by omega))) rfl ?_
                  refine ops_ro' rfl (ro_assign rfl) rfl ?_
                  refine ops_nil ?_
                  refine Then_normal ?_
                  refine back (m - 1) (by omega) (kept ⟨i + 1, i + 1, prt ++ [((s.drop fr).take (i - fr))], out ++ [((s.drop fr).take (i - fr))], p38, c38, ⟨by omega, by rw [pRun_append, hr]; exact pStep_ok out (by simpa using hc57), by simp; omega, hcut.2.1, hcut.2.2⟩, rfl, rfl⟩ ?_ ?_ ?_)
                  · exact (by repeat (first | exact Has.nil _ | refine Has.cons rfl ?_))
                  · exact (by repeat (first | exact Has.nil _ | refine Has.cons rfl ?_))
                  · exact (SubH.cons 1 rfl (SubH.cons 2 rfl (SubH.nil _)))
      · replace hg21 := of_decide_eq_false hg21
        refine ops_skip' rfl rfl ?_
        refine ops_skip' rfl rfl ?_
        refine ops_skip' rfl rfl ?_
        refine ops_skip' rfl rfl ?_
        refine ops_ro' rfl (ro_pick rfl rfl) rfl ?_
        refine ops_nil ?_
        refine Then_normal ?_
        refine wp_condF rfl ?_
        refine wp_skip' ?_
        refine Then_normal ?_
        refine wp_seq' ?_
        have hcut := hP'.cut (by first | exact .inl (by omega) | exact .inr ⟨by omega, UInt8.toNat_inj.1 (show s[i].toNat = 47 by omega)⟩)
        refine wp_region' ?_
        refine ops_ro' rfl (ro_move rfl) rfl ?_
        refine ops_ro' rfl (ro_move rfl) rfl ?_
        refine ops_ro' rfl (ro_move rfl) rfl ?_
        refine ops_ro' rfl (ro_sliceS Tryd.underlying9 rfl (bnd_of rfl rfl) (bnd_of rfl rfl) (by omega) (by omega)) rfl ?_
        refine ops_ro' rfl (ro_assign rfl) rfl ?_
        refine ops_nil ?_
        refine Then_normal ?_
        refine wp_seq' ?_
        refine wp_region' ?_
        refine ops_ro' rfl (ro_move rfl) rfl ?_
        refine ops_ro' rfl (ro_add rfl rfl (wrap_inc (by omega))) rfl ?_
        refine ops_ro' rfl (ro_assign rfl) rfl ?_
        refine ops_nil ?_
        refine Then_normal ?_
        refine wp_block' ?_
        refine wp_seq' ?_
        refine wp_region' ?_
        refine ops_ro' rfl (ro_move rfl) rfl ?_
        refine ops_ro' rfl (ro_eqlS (b := []) rfl rfl rfl) rfl ?_
        refine ops_split rfl rfl rfl (fun hg42 => ?_) (fun hg42 => ?_)
        · replace hg42 := of_decide_eq_true hg42
          refine ops_skip' rfl rfl ?_
          refine ops_skip' rfl rfl ?_
          refine ops_ro' rfl (ro_pick rfl rfl) rfl ?_
          refine ops_ro' rfl (ro_assign rfl) rfl ?_
          refine ops_nil ?_
          refine Then_normal ?_
          refine wp_condT rfl ?_
          refine wp_skip' ?_
          refine InBlock_normal ?_
          refine InBlock_normal ?_
          refine Then_normal ?_
          refine wp_region' ?_
          refine ops_ro' rfl (ro_move rfl) rfl ?_
          refine ops_ro' rfl (ro_add rfl rfl (wrap_inc (by omega))) rfl ?_
          refine ops_ro' rfl (ro_assign rfl) rfl ?_
          refine ops_nil ?_
          refine Then_normal ?_
          refine back (m - 1) (by omega) (kept ⟨i + 1, i + 1, prt ++ [((s.drop fr).take (i - fr))], out, p4, c4, ⟨by omega, by rw [pRun_append, hr]; first | exact pStep_dot (.inl hg42) | exact pStep_dot (.inr hc39) | (rw [hc46]; exact (pStep_up out).trans (by rw [show out = [] from List.eq_nil_of_length_eq_zero (by omega)]; rfl)), by omega, hcut.2.1, hcut.2.2⟩, rfl, rfl⟩ ?_ ?_ ?_)
          · exact (by repeat (first | exact Has.nil _ | refine Has.cons rfl ?_))
          · exact (by repeat (first | exact Has.nil _ | refine Has.cons rfl ?_))
          · exact SubH.refl _
        · replace hg42 := of_decide_eq_false hg42
          refine ops_ro' rfl (ro_move rfl) rfl ?_
          refine ops_ro' rfl (ro_eqlS (b := [46]) rfl rfl rfl) rfl ?_
          refine ops_ro' rfl (ro_pick rfl rfl) rfl ?_
          refine ops_ro' rfl (ro_assign rfl) rfl ?_
          refine ops_nil ?_
          refine Then_normal ?_
          refine wp_cond' rfl (fun hc39 => ?_) (fun hc39 => ?_)
          · replace hc39 := of_decide_eq_true hc39
            refine wp_skip' ?_
            refine InBlock_normal ?_
            refine InBlock_normal ?_
            refine Then_normal ?_
            refine wp_region' ?_
            refine ops_ro' rfl (ro_move rfl) rfl ?_
            refine ops_ro' rfl (ro_add rfl rfl (wrap_inc (by omega))) rfl ?_
            refine ops_ro' rfl (ro_assign rfl) rfl ?_
            refine ops_nil ?_
            refine Then_normal ?_
            refine back (m - 1) (by omega) (kept ⟨i + 1, i + 1, prt ++ [((s.drop fr).take (i - fr))], out, p4, c4, ⟨by omega, by rw [pRun_append, hr]; first | exact pStep_dot (.inl hg42) | exact pStep_dot (.inr hc39) | (rw [hc46]; exact (pStep_up out).trans (by rw [show out = [] from List.eq_nil_of_length_eq_zero (by omega)]; rfl)), by omega, hcut.2.1, hcut.2.2⟩, rfl, rfl⟩ ?_ ?_ ?_)
            · exact (by repeat (first | exact Has.nil _ | refine Has.cons rfl ?_))
            · exact (by repeat (first | exact Has.nil _ | refine Has.cons rfl ?_))
            · exact SubH.refl _
          · replace hc39 := of_decide_eq_false hc39
            refine wp_seq' ?_
            refine wp_region' ?_
            refine ops_ro' rfl (ro_move rfl) rfl ?_
            refine ops_ro' rfl (ro_eqlS (b := [46, 46]) rfl rfl rfl) rfl ?_
            refine ops_ro' rfl (ro_assign rfl) rfl ?_
            refine ops_nil ?_
            refine Then_normal ?_
            refine wp_cond' rfl (fun hc46 => ?_) (fun hc46 => ?_)
            · replace hc46 := of_decide_eq_true hc46
              refine wp_seq' ?_
              refine wp_region' ?_
              refine ops_ro' rfl (ro_move rfl) rfl ?_
              refine ops_ro' rfl (ro_sliceLen Tryd.underlying24 rfl) rfl ?_
              refine ops_ro' rfl (ro_gtr rfl rfl rfl) rfl ?_
              refine ops_nil ?_
              refine Then_normal ?_
              refine wp_cond' rfl (fun hc51 => ?_) (fun hc51 => ?_)
              · replace hc51 := of_decide_eq_true hc51
                refine wp_region' ?_
                refine ops_ro' rfl (ro_move rfl) rfl ?_
                refine ops_ro' rfl (ro_move rfl) rfl ?_
                refine ops_ro' rfl (ro_sliceLen Tryd.underlying24 rfl) rfl ?_
                refine ops_ro' rfl (ro_sub rfl rfl (show IntKind.i64.wrap ((out.length : Int) - 1) = ((out.length - 1 : Nat) : Int) by rw [wrap_i64_in (by omega) (by omega)]; omega)) rfl ?_
                refine ops_eff' rfl (eff_trunc 0 sl24 rfl rfl (bnd_of rfl rfl) (by omega)) rfl ?_
                rintro _ _ ⟨rfl, rfl⟩
                simp only [List.set_cons_zero, List.set_cons_succ]
                rw [trunc_tx, len_last]
                refine ops_ro' rfl (ro_assign rfl) rfl ?_
                refine ops_nil ?_
                refine InBlock_normal ?_
                refine InBlock_normal ?_
                refine Then_normal ?_
                refine wp_region' ?_
                refine ops_ro' rfl (ro_move rfl) rfl ?_
                refine ops_ro' rfl (ro_add rfl rfl (wrap_inc (by omega))) rfl ?_
                refine ops_ro' rfl (ro_assign rfl) rfl ?_
                refine ops_nil ?_
                refine Then_normal ?_
                refine back (m - 1) (by omega) (kept ⟨i + 1, i + 1, prt ++ [((s.drop fr).take (i - fr))], out.dropLast, p4, c4, ⟨by omega, by rw [pRun_append, hr, hc46]; exact pStep_up out, by simp; omega, hcut.2.1, hcut.2.2⟩, rfl, rfl⟩ ?_ ?_ ?_)
                · exact (by repeat (first | exact Has.nil _ | refine Has.cons rfl ?_))
                · exact (by repeat (first | exact Has.nil _ | refine Has.cons rfl ?_))
                · exact SubH.refl _
              · replace hc51 := of_decide_eq_false hc51
                refine wp_skip' ?_
                refine InBlock_normal ?_
                refine InBlock_normal ?_
                refine Then_normal ?_
                refine wp_region' ?_
                refine ops_ro' rfl (ro_move rfl) rfl ?_
                refine ops_ro' rfl (ro_add rfl rfl (wrap_inc (by omega))) rfl ?_
                refine ops_ro' rfl (ro_assign rfl) rfl ?_
                refine ops_nil ?_
                refine Then_normal ?_
                refine back (m - 1) (by omega) (kept ⟨i + 1, i + 1, prt ++ [((s.drop fr).take (i - fr))], out, p4, c4, ⟨by omega, by rw [pRun_append, hr]; first | exact pStep_dot (.inl hg42) | exact pStep_dot (.inr hc39) | (rw [hc46]; exact (pStep_up out).trans (by rw [show out = [] from List.eq_nil_of_length_eq_zero (by omega)]; rfl)), by omega, hcut.2.1, hcut.2.2⟩, rfl, rfl⟩ ?_ ?_ ?_)
                · exact (by repeat (first | exact Has.nil _ | refine Has.cons rfl ?_))
                · exact (by repeat (first | exact Has.nil _ | refine Has.cons rfl ?_))
                · exact SubH.refl _
            · replace hc46 := of_decide_eq_false hc46
              refine wp_seq' ?_
              refine wp_region' ?_
              refine ops_ro' rfl (ro_move rfl) rfl ?_
              refine ops_eff' rfl (eff_call Tryd.call17 rfl rfl (by repeat (first | exact Split.nil _ | apply Split.cons 0 rfl | apply Split.cons 1 rfl | apply Split.cons 2 rfl | apply Split.cons 3 rfl | apply Split.cons 4 rfl | apply Split.cons 5 rfl | apply Split.cons 6 rfl | apply Split.cons 7 rfl | apply Split.cons 8 rfl | apply Split.cons 9 rfl | apply Split.cons 10 rfl | apply Split.cons 11 rfl)) (qtRight_spec ((s.drop fr).take (i - fr)) (by simp only [List.length_take]; omega))) rfl ?_
              rintro _ H' ⟨_, ⟨rfl, rfl⟩, hH⟩
              simp only [List.cons_append, List.nil_append, List.eraseIdx_cons_zero, List.eraseIdx_cons_succ, List.set_cons_zero, List.set_cons_succ] at hH
              subst hH
              refine ops_ro' rfl (ro_not rfl rfl) rfl ?_
              refine ops_ro' rfl (ro_assign rfl) rfl ?_
              refine ops_nil ?_
              refine Then_normal ?_
              refine wp_cond' rfl (fun hc57 => ?_) (fun hc57 => ?_)
              · simp only [Bool.and_eq_true, decide_eq_true_eq, Bool.not_eq_true', decide_eq_false_iff_not, bne_iff_ne, ne_eq] at hc57
                refine wp_seq' ?_
                refine wp_region' ?_
                refine ops_ro' rfl (ro_assign rfl) rfl ?_
                refine ops_ro' rfl (ro_assign rfl) rfl ?_
                refine ops_nil ?_
                refine Then_normal ?_
                refine wp_ret' ?_
                refine InBlock_ret ?_
                refine InBlock_ret ?_
                refine Then_ret ?_
                refine Then_ret ?_
                refine InBlock_ret ?_
                refine Then_ret ?_
                have HB : pRun (some []) (parts 47 s) = none := by
                  have hb := pStep_bad out (by rintro (h | h); exact hg42 h; exact hc39 h) hc46 (by simpa using hc57)
                  by_cases h : i = s.length
                  · rw [hcut.2.2 (by omega), pRun_append, hr]; exact hb
                  · obtain ⟨_, _, h3⟩ := hcut.2.1 (by omega)
                    rw [h3, pRun_append, pRun_append, hr]
                    show pRun (pStep (some out) _) _ = none
                    rw [hb, pRun_none]
                refine' doneS_ret (res2 rfl rfl rfl) ?_ ?_
                rotate_left 1
                exact ⟨_, ⟨none, 0, by rw [pSplit_none (by omega) HB]; first | done | exact rfl, by rw [pSplit_none (by omega) HB]; first | done | exact rfl⟩, rfl⟩
                exact (SubH.rown (SubH.cons 1 rfl (SubH.nil _)))
              · simp only [Bool.and_eq_false_iff, decide_eq_false_iff_not, Bool.not_eq_false', decide_eq_true_eq] at hc57
                refine wp_region' ?_
                refine ops_eff' rfl (eff_lit sl24 rfl (sbld (cs := []) [] sl24 (by decide) (by kernel_rfl) rfl) rfl (by decide)) rfl ?_
                rintro _ _ ⟨b33, rfl, rfl⟩
                refine ops_ro' rfl (ro_move rfl) rfl ?_
                refine ops_eff' rfl (eff_appF (f := Tx.cs) (l := []) (l2 := out) 0 sl24 (.inl ⟨9, Tryd.underlying24⟩) rfl rfl rfl (by first | exact Src.flatv Tx.len Tx.one (Vw.pick 0 rfl Vw.row) | exact Src.flatv Tx.len Tx.one (Vw.pick 1 rfl Vw.row) | exact Src.flatv Tx.len Tx.one (Vw.pick 2 rfl Vw.row) | exact Src.flatv Tx.len Tx.one (Vw.pick 3 rfl Vw.row) | exact Src.flatv Tx.len Tx.one (Vw.pick 4 rfl Vw.row) | exact Src.flatv Tx.len Tx.one (Vw.pick 5 rfl Vw.row) | exact Src.flatv Tx.len Tx.one (Vw.pick 6 rfl Vw.row) | exact Src.flatv Tx.len Tx.one (Vw.pick 7 rfl Vw.row) | exact Src.flatv Tx.len Tx.one (Vw.pick 8 rfl Vw.row) | exact Src.flatv Tx.len Tx.one (Vw.pick 9 rfl Vw.row)) (by simp only [List.length_nil]; omega) (by simp only [List.length_nil]; omega)) rfl ?_
                rintro _ _ ⟨p35, c35, rfl, hn35, rfl⟩
                simp only [List.set_cons_zero, List.set_cons_succ, List.nil_append]
                refine ops_ro' rfl (ro_move rfl) rfl ?_
                refine ops_eff' rfl (eff_lit sl24 rfl (sbld (cs := [_]) [(.string ByteArray.empty)] sl24 (by decide) (by kernel_rfl) rfl) rfl (by decide)) rfl ?_
                rintro _ _ ⟨b37, rfl, rfl⟩
                refine ops_eff' rfl (eff_appF (f := Tx.cs) (l2 := [((s.drop fr).take (i - fr))]) 1 sl24 (.inl ⟨9, Tryd.underlying24⟩) rfl rfl rfl (by first | exact Src.flatv Tx.len Tx.one (Vw.pick 0 rfl Vw.row) | exact Src.flatv Tx.len Tx.one (Vw.pick 1 rfl Vw.row) | exact Src.flatv Tx.len Tx.one (Vw.pick 2 rfl Vw.row) | exact Src.flatv Tx.len Tx.one (Vw.pick 3 rfl Vw.row) | exact Src.flatv Tx.len Tx.one (Vw.pick 4 rfl Vw.row) | exact Src.flatv Tx.len Tx.one (Vw.pick 5 rfl Vw.row) | exact Src.flatv Tx.len Tx.one (Vw.pick 6 rfl Vw.row) | exact Src.flatv Tx.len Tx.one (Vw.pick 7 rfl Vw.row) | exact Src.flatv Tx.len Tx.one (Vw.pick 8 rfl Vw.row) | exact Src.flatv Tx.len Tx.one (Vw.pick 9 rfl Vw.row)) (by simp only [List.length_cons, List.length_nil]; omega) (by simp only [List.length_cons, List.length_nil]; omega)) rfl ?_
                rintro _ _ ⟨p38, c38, rfl, hn38, rfl⟩
                simp only [List.set_cons_zero, List.set_cons_succ]
                refine ops_ro' rfl (ro_assign rfl) rfl ?_
                refine ops_nil ?_
                refine InBlock_normal ?_
                refine InBlock_normal ?_
                refine Then_normal ?_
                refine wp_region' ?_
                refine ops_ro' rfl (ro_move rfl) rfl ?_
                refine ops_ro' rfl (ro_add rfl rfl (wrap_inc (by omega))) rfl ?_
                refine ops_ro' rfl (ro_assign rfl) rfl ?_
                refine ops_nil ?_
                refine Then_normal ?_
                refine back (m - 1) (by omega) (kept ⟨i + 1, i + 1, prt ++ [((s.drop fr).take (i - fr))], out ++ [((s.drop fr).take (i - fr))], p38, c38, ⟨by omega, by rw [pRun_append, hr]; exact pStep_ok out (by simpa using hc57), by simp; omega, hcut.2.1, hcut.2.2⟩, rfl, rfl⟩ ?_ ?_ ?_)
                · exact (by repeat (first | exact Has.nil _ | refine Has.cons rfl ?_))
                · exact (by repeat (first | exact Has.nil _ | refine Has.cons rfl ?_))
                · exact (SubH.cons 1 rfl (SubH.cons 2 rfl (SubH.nil _)))
    · replace hc14 := of_decide_eq_false hc14
      refine wp_exit' ?_
      refine Then_exit ?_
      refine Then_exit ?_
      refine InBlock_here ?_
      refine Then_normal ?_
      refine wp_seq' ?_
      refine wp_region' ?_
      refine ops_ro' rfl (ro_move rfl) rfl ?_
      refine ops_ro' rfl (ro_assign rfl) rfl ?_
      refine ops_ro' rfl (ro_assign rfl) rfl ?_
      refine ops_nil ?_
      refine Then_normal ?_
      refine wp_ret' ?_
      have hp := hE (by omega)
      rw [← hp] at hr
      refine' doneS_ret (res2 rfl rfl rfl) ?_ ?_
      rotate_left 1
      exact ⟨_, ⟨p4, c4, by rw [pSplit_some (by omega) hr], by rw [pSplit_some (by omega) hr]⟩, rfl⟩
      exact SubH.refl _

end Go.Proofs.YtigaolglnnjnmaaDoor
