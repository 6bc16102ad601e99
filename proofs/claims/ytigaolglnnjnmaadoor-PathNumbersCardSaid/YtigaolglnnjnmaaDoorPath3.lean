/-
  Join, Clean, by both; the runs of chapter 13.
-/
import Derived.Test.YtigaolglnnjnmaaDoorPath2
namespace Go.Proofs.YtigaolglnnjnmaaDoor
open Go.Sx
set_option linter.unusedVariables false
set_option linter.unusedSimpArgs false
set_option maxRecDepth 100000
set_option maxHeartbeats 4000000

def jns (l : List (List UInt8)) : List UInt8 := l.flatMap fun x => 47 :: x
theorem jns_succ {l : List (List UInt8)} {i : Nat} (hi : i < l.length) : jns (l.take (i + 1)) = jns (l.take i) ++ [47] ++ l[i] := by
  rw [jns, List.take_succ_eq_append_getElem hi, List.flatMap_append]; simp [jns]
theorem jns_le (l : List (List UInt8)) (hx : ∀ x ∈ l, x.length ≤ 300) : ∀ i, (jns (l.take i)).length ≤ 301 * l.length := fun i => by
  have h : ∀ m : List (List UInt8), (∀ x ∈ m, x.length ≤ 300) → (jns m).length ≤ 301 * m.length := fun m => by
    induction m with
    | nil => intro _; simp [jns]
    | cons x r ih =>
      intro h
      have h1 := h x (by simp)
      have h2 := ih fun y hy => h y (List.mem_cons_of_mem _ hy)
      have e : jns (x :: r) = 47 :: x ++ jns r := by simp [jns]
      rw [e]; simp only [List.length_append, List.length_cons]; omega
  have h1 := h (l.take i) fun x hx' => hx x (List.mem_of_mem_take hx')
  rw [List.length_take] at h1; omega
theorem jc_jns : ∀ l : List (List UInt8), l ≠ [] → 47 :: joinc 47 l = jns l
  | [], h => absurd rfl h
  | [x], _ => by simp [joinc, jns]
  | x :: y :: r, _ => by
    have h := jc_jns (y :: r) (by simp)
    rw [joinc_cons 47 x (by simp), h]; simp [jns]
theorem jc_le (l : List (List UInt8)) (hx : ∀ x ∈ l, x.length ≤ 300) : (joinc 47 l).length ≤ 301 * l.length := by
  by_cases h : l = []
  · subst h; simp [joinc]
  · have h1 := jns_le l hx l.length
    rw [List.take_length, ← jc_jns l h, List.length_cons] at h1; omega
theorem pJoin_nil {l : List (List UInt8)} (h : l.length = 0) : pJoin l = [47] := by rw [List.eq_nil_of_length_eq_zero h]; rfl
theorem pJoin_cons {l : List (List UInt8)} (h : l.length ≠ 0) : pJoin l = [47] ++ joinc 47 l := by unfold pJoin; rw [if_neg (fun e => h (by rw [e]; rfl))]; rfl
theorem pJoin_jns (l : List (List UInt8)) : pJoin l = if jns l = [] then [47] else jns l := by
  by_cases h : l = []
  · subst h; rfl
  · unfold pJoin
    rw [if_neg h, jc_jns l h, if_neg]
    cases l with
    | nil => exact absurd rfl h
    | cons x r => simp [jns]
theorem ptJoin_spec (V : HProp) (q : Option Addr) (cq : Nat) (l : List (List UInt8)) (hV : Vw V (.slice q l.length cq) l.length (txs l)) (hcq : l.length ≤ cq) (hl : l.length ≤ 100000000) (hx : ∀ x ∈ l, x.length ≤ 300) : Tri Tryd.prog 18 [.slice q l.length cq] [V] (fun v H' => ∃ K, (v = .string (str (pJoin l)) ∧ K = []) ∧ H' = K ++ [V]) := by
  refine tri_of_wpS Tryd.func18 rfl Tryd.ntmps18 (by simp) ?_
  refine wp_seq' ?_
  refine wp_region' ?_
  refine ops_ro' rfl (ro_assign rfl) rfl ?_
  refine ops_nil ?_
  refine Then_normal ?_
  refine wp_seq' ?_
  refine wp_seq' ?_
  refine wp_region' ?_
  refine ops_ro' rfl (ro_move rfl) rfl ?_
  refine ops_ro' rfl (ro_sliceLen Tryd.underlying24 rfl) rfl ?_
  refine ops_ro' rfl (ro_eql rfl rfl rfl) rfl ?_
  refine ops_nil ?_
  refine Then_normal ?_
  refine wp_cond' rfl (fun hc5 => ?_) (fun hc5 => ?_)
  · replace hc5 := of_decide_eq_true hc5
    refine wp_seq' ?_
    refine wp_region' ?_
    refine ops_ro' rfl (ro_assign rfl) rfl ?_
    refine ops_nil ?_
    refine Then_normal ?_
    refine wp_ret' ?_
    refine Then_ret ?_
    refine' doneS_ret (res1 rfl rfl) ?_ ?_
    rotate_left 1
    exact ⟨_, ⟨by rw [pJoin_nil (by omega)]; first | done | exact rfl, rfl⟩, rfl⟩
    exact SubH.refl _
  · replace hc5 := of_decide_eq_false hc5
    refine wp_skip' ?_
    refine Then_normal ?_
    refine wp_seq' ?_
    refine wp_region' ?_
    refine ops_ro' rfl (ro_move rfl) rfl ?_
    refine ops_eff' rfl (eff_call Tryd.call35 rfl rfl (by repeat (first | exact Split.nil _ | apply Split.cons 0 rfl | apply Split.cons 1 rfl | apply Split.cons 2 rfl | apply Split.cons 3 rfl | apply Split.cons 4 rfl | apply Split.cons 5 rfl | apply Split.cons 6 rfl | apply Split.cons 7 rfl | apply Split.cons 8 rfl | apply Split.cons 9 rfl | apply Split.cons 10 rfl | apply Split.cons 11 rfl)) (join1_spec V q cq l 47 hV hcq (by omega) (by have := jc_le l hx; omega))) rfl ?_
    rintro _ H' ⟨_, ⟨rfl, rfl⟩, hH⟩
    simp only [List.cons_append, List.nil_append, List.eraseIdx_cons_zero, List.eraseIdx_cons_succ, List.set_cons_zero, List.set_cons_succ] at hH
    subst hH
    refine ops_ro' rfl (ro_addS rfl rfl (by have := jc_le l hx; simp only [List.length_cons, List.length_nil]; omega)) rfl ?_
    refine ops_ro' rfl (ro_assign rfl) rfl ?_
    refine ops_nil ?_
    refine Then_normal ?_
    refine wp_ret' ?_
    refine' doneS_ret (res1 rfl rfl) ?_ ?_
    rotate_left 1
    exact ⟨_, ⟨by rw [pJoin_cons (by omega)]; first | done | exact rfl, rfl⟩, rfl⟩
    exact SubH.refl _
theorem qtJoin_spec (V : HProp) (q : Option Addr) (cq : Nat) (l : List (List UInt8)) (hV : Vw V (.slice q l.length cq) l.length (txs l)) (hl : l.length ≤ 100000000) (hx : ∀ x ∈ l, x.length ≤ 300) : Tri Tryd.prog 22 [.slice q l.length cq] [V] (fun v H' => ∃ K, (v = .string (str (pJoin l)) ∧ K = []) ∧ H' = K ++ [V]) := by
  refine tri_of_wpS Tryd.func22 rfl Tryd.ntmps22 (by simp) ?_
  refine wp_seq' ?_
  refine wp_region' ?_
  refine ops_ro' rfl (ro_assign rfl) rfl ?_
  refine ops_nil ?_
  refine Then_normal ?_
  refine wp_seq' ?_
  refine wp_region' ?_
  refine ops_ro' rfl (ro_assign rfl) rfl ?_
  refine ops_nil ?_
  refine Then_normal ?_
  refine wp_seq' ?_
  refine wp_seq' ?_
  refine wp_region' ?_
  refine ops_ro' rfl (ro_assign rfl) rfl ?_
  refine ops_nil ?_
  refine Then_normal ?_
  refine wp_block' ?_
  refine wp_loopK 3 (fun m Δ LL => ∃ (i : Nat), (i + m = l.length) ∧ Δ = [(3, .string (str (jns (l.take i)))), (4, .int .i64 (i : Nat))] ∧ LL = [V]) (m := l.length) (Has.cons (k := 0) rfl (Has.nil _)) (kept ⟨0, by omega, rfl, rfl⟩ (by repeat (first | exact Has.nil _ | refine Has.cons rfl ?_)) (by repeat (first | exact Has.nil _ | refine Has.cons rfl ?_)) (by repeat (first | exact SubH.nil _ | refine SubH.cons 0 rfl ?_ | refine SubH.cons 1 rfl ?_ | refine SubH.cons 2 rfl ?_ | refine SubH.cons 3 rfl ?_ | refine SubH.cons 4 rfl ?_ | refine SubH.cons 5 rfl ?_ | refine SubH.cons 6 rfl ?_ | refine SubH.cons 7 rfl ?_ | refine SubH.cons 8 rfl ?_ | refine SubH.cons 9 rfl ?_ | refine SubH.cons 10 rfl ?_ | refine SubH.cons 11 rfl ?_ | refine SubH.cons 12 rfl ?_ | refine SubH.cons 13 rfl ?_ | refine SubH.rown ?_))) ?_
  rintro m Δ LL ⟨i, hm, rfl, rfl⟩
  simp only [List.cons_append, List.nil_append]
  refine wp_seq' ?_
  refine wp_seq' ?_
  refine wp_region' ?_
  refine ops_ro' rfl (ro_move rfl) rfl ?_
  refine ops_ro' rfl (ro_move rfl) rfl ?_
  refine ops_ro' rfl (ro_sliceLen Tryd.underlying24 rfl) rfl ?_
  refine ops_ro' rfl (ro_lss rfl rfl rfl) rfl ?_
  refine ops_nil ?_
  refine Then_normal ?_
  refine wp_cond' rfl (fun hc8 => ?_) (fun hc8 => ?_)
  · replace hc8 := of_decide_eq_true hc8
    have hi : i < l.length := by omega
    have hxi := hx _ (List.getElem_mem hi)
    have hjl := jns_le l hx i
    refine wp_know (fun w F s => vw_ptr (Vw.pick (H := [V]) 0 rfl hV) s (by omega)) ?_
    rintro ⟨b0, o0, rfl⟩
    refine wp_skip' ?_
    refine Then_normal ?_
    refine wp_seq' ?_
    refine wp_block' ?_
    refine wp_region' ?_
    refine ops_ro' rfl (ro_move rfl) rfl ?_
    refine ops_ro' rfl (ro_addS rfl rfl (by first | omega | (simp only [List.length_append, List.length_cons, List.length_nil] at *; omega))) rfl ?_
    refine ops_ro' rfl (ro_move rfl) rfl ?_
    refine ops_ro' rfl (ro_move rfl) rfl ?_
    refine ops_ro' rfl (ro_indexSlice sl24 rfl rfl rfl (by omega)) rfl ?_
    refine ops_ro' rfl (ro_load sc9 rfl (Rd.pick 0 rfl (Rd.elem (j := 0) (vw_rdn hV) Tx.len (List.getElem?_eq_getElem hi) rfl))) rfl ?_
    refine ops_ro' rfl (ro_addS rfl rfl (by first | omega | (simp only [List.length_append, List.length_cons, List.length_nil] at *; omega))) rfl ?_
    rw [← jns_succ hi]
    refine ops_ro' rfl (ro_assign rfl) rfl ?_
    refine ops_nil ?_
    refine InBlock_normal ?_
    refine Then_normal ?_
    refine wp_region' ?_
    refine ops_ro' rfl (ro_move rfl) rfl ?_
    refine ops_ro' rfl (ro_add rfl rfl (wrap_inc (by omega))) rfl ?_
    refine ops_ro' rfl (ro_assign rfl) rfl ?_
    refine ops_nil ?_
    refine Then_normal ?_
    refine back (m - 1) (by omega) (kept ⟨i + 1, by omega, rfl, rfl⟩ ?_ ?_ ?_)
    · exact (by repeat (first | exact Has.nil _ | refine Has.cons rfl ?_))
    · exact (by repeat (first | exact Has.nil _ | refine Has.cons rfl ?_))
    · exact SubH.refl _
  · replace hc8 := of_decide_eq_false hc8
    rw [show l.take i = l from List.take_of_length_le (by omega)]
    refine wp_exit' ?_
    refine Then_exit ?_
    refine Then_exit ?_
    refine InBlock_here ?_
    refine Then_normal ?_
    refine wp_seq' ?_
    refine wp_seq' ?_
    refine wp_region' ?_
    refine ops_ro' rfl (ro_move rfl) rfl ?_
    refine ops_ro' rfl (ro_eqlS (b := []) rfl rfl rfl) rfl ?_
    refine ops_nil ?_
    refine Then_normal ?_
    refine wp_cond' rfl (fun hc19 => ?_) (fun hc19 => ?_)
    · replace hc19 := of_decide_eq_true hc19
      refine wp_seq' ?_
      refine wp_region' ?_
      refine ops_ro' rfl (ro_assign rfl) rfl ?_
      refine ops_nil ?_
      refine Then_normal ?_
      refine wp_ret' ?_
      refine Then_ret ?_
      refine' doneS_ret (res1 rfl rfl) ?_ ?_
      rotate_left 1
      exact ⟨_, ⟨by rw [pJoin_jns, if_pos hc19]; first | done | exact rfl, rfl⟩, rfl⟩
      exact SubH.refl _
    · replace hc19 := of_decide_eq_false hc19
      refine wp_skip' ?_
      refine Then_normal ?_
      refine wp_seq' ?_
      refine wp_region' ?_
      refine ops_ro' rfl (ro_move rfl) rfl ?_
      refine ops_ro' rfl (ro_assign rfl) rfl ?_
      refine ops_nil ?_
      refine Then_normal ?_
      refine wp_ret' ?_
      refine' doneS_ret (res1 rfl rfl) ?_ ?_
      rotate_left 1
      exact ⟨_, ⟨by rw [pJoin_jns, if_neg hc19]; first | done | exact rfl, rfl⟩, rfl⟩
      exact SubH.refl _


theorem ptClean_spec (V : HProp) (hM : Ml V) (s : List UInt8) (hs : s.length ≤ 1000000) : Tri Tryd.prog 13 [.string (str s)] [V] (fun v H' => ∃ K, (v = .tuple #[.string (str (pClean s).1), .int .i64 (pClean s).2] ∧ K = []) ∧ H' = K ++ [V]) := by
  refine tri_of_wpS Tryd.func13 rfl Tryd.ntmps13 (by simp) ?_
  refine wp_seq' ?_
  refine wp_region' ?_
  refine ops_ro' rfl (ro_assign rfl) rfl ?_
  refine ops_ro' rfl (ro_assign rfl) rfl ?_
  refine ops_nil ?_
  refine Then_normal ?_
  refine wp_seq' ?_
  refine wp_region' ?_
  refine ops_ro' rfl (ro_move rfl) rfl ?_
  refine ops_eff' rfl (eff_call Tryd.call11 rfl rfl (by repeat (first | exact Split.nil _ | apply Split.cons 0 rfl | apply Split.cons 1 rfl | apply Split.cons 2 rfl | apply Split.cons 3 rfl | apply Split.cons 4 rfl | apply Split.cons 5 rfl | apply Split.cons 6 rfl | apply Split.cons 7 rfl | apply Split.cons 8 rfl | apply Split.cons 9 rfl | apply Split.cons 10 rfl | apply Split.cons 11 rfl)) (ptSplit_spec V hM s hs)) rfl ?_
  rintro _ H' ⟨_, ⟨_, ⟨p8, c8, rfl, rfl⟩, rfl⟩, hH⟩
  simp only [List.cons_append, List.nil_append, List.eraseIdx_cons_zero, List.eraseIdx_cons_succ, List.set_cons_zero, List.set_cons_succ] at hH
  subst hH
  have hsz := pSplit_size s
  have hcl : pClean s = if (pSplit s).2 ≠ 0 then ([], (pSplit s).2) else (pJoin (pSplit s).1, 0) := rfl
  generalize pSplit s = t at *
  obtain ⟨l, e⟩ := t
  simp only at *
  refine ops_know (fun w F s => row_caps 0 rfl s) ?_
  intro hcl2
  refine ops_ro' rfl (ro_move rfl) rfl ?_
  refine ops_ro' rfl (ro_extract rfl rfl) rfl ?_
  refine ops_ro' rfl (ro_extract rfl rfl) rfl ?_
  refine ops_ro' rfl (ro_assign rfl) rfl ?_
  refine ops_ro' rfl (ro_assign rfl) rfl ?_
  refine ops_nil ?_
  refine Then_normal ?_
  refine wp_seq' ?_
  refine wp_seq' ?_
  refine wp_region' ?_
  refine ops_ro' rfl (ro_move rfl) rfl ?_
  refine ops_ro' rfl (ro_neq rfl rfl rfl) rfl ?_
  refine ops_nil ?_
  refine Then_normal ?_
  refine wp_cond' rfl (fun hc12 => ?_) (fun hc12 => ?_)
  · replace hc12 := of_decide_eq_true hc12
    refine wp_seq' ?_
    refine wp_region' ?_
    refine ops_ro' rfl (ro_move rfl) rfl ?_
    refine ops_ro' rfl (ro_assign rfl) rfl ?_
    refine ops_ro' rfl (ro_assign rfl) rfl ?_
    refine ops_nil ?_
    refine Then_normal ?_
    refine wp_ret' ?_
    refine Then_ret ?_
    refine' doneS_ret (res2 rfl rfl rfl) ?_ ?_
    rotate_left 1
    exact ⟨_, ⟨by rw [hcl, if_pos (by simpa using hc12)]; first | done | exact rfl, rfl⟩, rfl⟩
    exact (SubH.cons 1 rfl (SubH.nil _))
  · replace hc12 := of_decide_eq_false hc12
    refine wp_skip' ?_
    refine Then_normal ?_
    refine wp_seq' ?_
    refine wp_region' ?_
    refine ops_ro' rfl (ro_move rfl) rfl ?_
    refine ops_eff' rfl (eff_callM (Pre := []) Tryd.call18 rfl rfl (Split.nil _) (ptJoin_spec _ _ _ l (by first | exact Vw.pick 0 rfl Vw.row | exact Vw.pick 1 rfl Vw.row | exact Vw.pick 2 rfl Vw.row | exact Vw.pick 3 rfl Vw.row | exact Vw.pick 4 rfl Vw.row | exact Vw.pick 5 rfl Vw.row | exact Vw.pick 6 rfl Vw.row | exact Vw.pick 7 rfl Vw.row | exact Vw.pick 8 rfl Vw.row | exact Vw.pick 9 rfl Vw.row | exact Vw.nil _ | exact Vw.empty _ _) hcl2 (by omega) (fun x hx => Nat.le_trans (hsz.2 x hx) (by decide)))) rfl ?_
    rintro _ H' ⟨_, ⟨rfl, rfl⟩, hH⟩
    simp only [List.cons_append, List.nil_append, List.eraseIdx_cons_zero, List.eraseIdx_cons_succ, List.set_cons_zero, List.set_cons_succ] at hH
    subst hH
    refine ops_ro' rfl (ro_assign rfl) rfl ?_
    refine ops_ro' rfl (ro_assign rfl) rfl ?_
    refine ops_nil ?_
    refine Then_normal ?_
    refine wp_ret' ?_
    refine' doneS_ret (res2 rfl rfl rfl) ?_ ?_
    rotate_left 1
    exact ⟨_, ⟨by rw [hcl, if_neg (by simpa using hc12)]; first | done | exact rfl, rfl⟩, rfl⟩
    exact (SubH.cons 1 rfl (SubH.nil _))
theorem qtClean_spec (V : HProp) (s : List UInt8) (hs : s.length ≤ 1000000) : Tri Tryd.prog 14 [.string (str s)] [V] (fun v H' => ∃ K, (v = .tuple #[.string (str (pClean s).1), .int .i64 (pClean s).2] ∧ K = []) ∧ H' = K ++ [V]) := by
  refine tri_of_wpS Tryd.func14 rfl Tryd.ntmps14 (by simp) ?_
  refine wp_seq' ?_
  refine wp_region' ?_
  refine ops_ro' rfl (ro_assign rfl) rfl ?_
  refine ops_ro' rfl (ro_assign rfl) rfl ?_
  refine ops_nil ?_
  refine Then_normal ?_
  refine wp_seq' ?_
  refine wp_region' ?_
  refine ops_ro' rfl (ro_move rfl) rfl ?_
  refine ops_eff' rfl (eff_call Tryd.call12 rfl rfl (by repeat (first | exact Split.nil _ | apply Split.cons 0 rfl | apply Split.cons 1 rfl | apply Split.cons 2 rfl | apply Split.cons 3 rfl | apply Split.cons 4 rfl | apply Split.cons 5 rfl | apply Split.cons 6 rfl | apply Split.cons 7 rfl | apply Split.cons 8 rfl | apply Split.cons 9 rfl | apply Split.cons 10 rfl | apply Split.cons 11 rfl)) (qtSplit_spec V s hs)) rfl ?_
  rintro _ H' ⟨_, ⟨_, ⟨p8, c8, rfl, rfl⟩, rfl⟩, hH⟩
  simp only [List.cons_append, List.nil_append, List.eraseIdx_cons_zero, List.eraseIdx_cons_succ, List.set_cons_zero, List.set_cons_succ] at hH
  subst hH
  have hsz := pSplit_size s
  have hcl : pClean s = if (pSplit s).2 ≠ 0 then ([], (pSplit s).2) else (pJoin (pSplit s).1, 0) := rfl
  generalize pSplit s = t at *
  obtain ⟨l, e⟩ := t
  simp only at *
  refine ops_know (fun w F s => row_caps 0 rfl s) ?_
  intro hcl2
  refine ops_ro' rfl (ro_move rfl) rfl ?_
  refine ops_ro' rfl (ro_extract rfl rfl) rfl ?_
  refine ops_ro' rfl (ro_extract rfl rfl) rfl ?_
  refine ops_ro' rfl (ro_assign rfl) rfl ?_
  refine ops_ro' rfl (ro_assign rfl) rfl ?_
  refine ops_nil ?_
  refine Then_normal ?_
  refine wp_seq' ?_
  refine wp_seq' ?_
  refine wp_region' ?_
  refine ops_ro' rfl (ro_move rfl) rfl ?_
  refine ops_ro' rfl (ro_neq rfl rfl rfl) rfl ?_
  refine ops_nil ?_
  refine Then_normal ?_
  refine wp_cond' rfl (fun hc12 => ?_) (fun hc12 => ?_)
  · replace hc12 := of_decide_eq_true hc12
    refine wp_seq' ?_
    refine wp_region' ?_
    refine ops_ro' rfl (ro_move rfl) rfl ?_
    refine ops_ro' rfl (ro_assign rfl) rfl ?_
    refine ops_ro' rfl (ro_assign rfl) rfl ?_
    refine ops_nil ?_
    refine Then_normal ?_
    refine wp_ret' ?_
    refine Then_ret ?_
    refine' doneS_ret (res2 rfl rfl rfl) ?_ ?_
    rotate_left 1
    exact ⟨_, ⟨by rw [hcl, if_pos (by simpa using hc12)]; first | done | exact rfl, rfl⟩, rfl⟩
    exact (SubH.cons 1 rfl (SubH.nil _))
  · replace hc12 := of_decide_eq_false hc12
    refine wp_skip' ?_
    refine Then_normal ?_
    refine wp_seq' ?_
    refine wp_region' ?_
    refine ops_ro' rfl (ro_move rfl) rfl ?_
    refine ops_eff' rfl (eff_callM (Pre := []) Tryd.call22 rfl rfl (Split.nil _) (qtJoin_spec _ _ _ l (by first | exact Vw.pick 0 rfl Vw.row | exact Vw.pick 1 rfl Vw.row | exact Vw.pick 2 rfl Vw.row | exact Vw.pick 3 rfl Vw.row | exact Vw.pick 4 rfl Vw.row | exact Vw.pick 5 rfl Vw.row | exact Vw.pick 6 rfl Vw.row | exact Vw.pick 7 rfl Vw.row | exact Vw.pick 8 rfl Vw.row | exact Vw.pick 9 rfl Vw.row | exact Vw.nil _ | exact Vw.empty _ _) (by omega) (fun x hx => Nat.le_trans (hsz.2 x hx) (by decide)))) rfl ?_
    rintro _ H' ⟨_, ⟨rfl, rfl⟩, hH⟩
    simp only [List.cons_append, List.nil_append, List.eraseIdx_cons_zero, List.eraseIdx_cons_succ, List.set_cons_zero, List.set_cons_succ] at hH
    subst hH
    refine ops_ro' rfl (ro_assign rfl) rfl ?_
    refine ops_ro' rfl (ro_assign rfl) rfl ?_
    refine ops_nil ?_
    refine Then_normal ?_
    refine wp_ret' ?_
    refine' doneS_ret (res2 rfl rfl rfl) ?_ ?_
    rotate_left 1
    exact ⟨_, ⟨by rw [hcl, if_neg (by simpa using hc12)]; first | done | exact rfl, rfl⟩, rfl⟩
    exact (SubH.cons 1 rfl (SubH.nil _))


theorem known13_spec (V : HProp) (hM : Ml V) : Tri Tryd.prog 19 [] [V] (fun v H' => v = .bool true ∧ H' = [V]) := by
  refine tri_of_wpS Tryd.func19 rfl Tryd.ntmps19 (by simp) ?_
  refine wp_seq' ?_
  refine wp_region' ?_
  refine ops_ro' rfl (ro_assign rfl) rfl ?_
  refine ops_nil ?_
  refine Then_normal ?_
  refine wp_seq' ?_
  refine wp_region' ?_
  refine ops_eff' rfl (eff_call Tryd.call13 rfl rfl (by repeat (first | exact Split.nil _ | apply Split.cons 0 rfl | apply Split.cons 1 rfl | apply Split.cons 2 rfl | apply Split.cons 3 rfl | apply Split.cons 4 rfl | apply Split.cons 5 rfl | apply Split.cons 6 rfl | apply Split.cons 7 rfl | apply Split.cons 8 rfl | apply Split.cons 9 rfl | apply Split.cons 10 rfl | apply Split.cons 11 rfl)) (ptClean_spec V hM [97, 47, 47, 98, 47, 46, 46, 47, 99] (by decide))) rfl ?_
  rintro _ H' ⟨_, ⟨_, ⟨rfl, rfl⟩, rfl⟩, hH⟩
  simp only [List.cons_append, List.nil_append, List.eraseIdx_cons_zero, List.eraseIdx_cons_succ, List.set_cons_zero, List.set_cons_succ] at hH
  subst hH
  rw [show pClean [97, 47, 47, 98, 47, 46, 46, 47, 99] = ([47, 97, 47, 99], (0 : Int)) by rfl]
  refine ops_ro' rfl (ro_move rfl) rfl ?_
  refine ops_ro' rfl (ro_extract rfl rfl) rfl ?_
  refine ops_ro' rfl (ro_extract rfl rfl) rfl ?_
  refine ops_ro' rfl (ro_assign rfl) rfl ?_
  refine ops_ro' rfl (ro_assign rfl) rfl ?_
  refine ops_nil ?_
  refine Then_normal ?_
  refine wp_seq' ?_
  refine wp_region' ?_
  refine ops_eff' rfl (eff_call Tryd.call13 rfl rfl (by repeat (first | exact Split.nil _ | apply Split.cons 0 rfl | apply Split.cons 1 rfl | apply Split.cons 2 rfl | apply Split.cons 3 rfl | apply Split.cons 4 rfl | apply Split.cons 5 rfl | apply Split.cons 6 rfl | apply Split.cons 7 rfl | apply Split.cons 8 rfl | apply Split.cons 9 rfl | apply Split.cons 10 rfl | apply Split.cons 11 rfl)) (ptClean_spec V hM [] (by decide))) rfl ?_
  rintro _ H' ⟨_, ⟨_, ⟨rfl, rfl⟩, rfl⟩, hH⟩
  simp only [List.cons_append, List.nil_append, List.eraseIdx_cons_zero, List.eraseIdx_cons_succ, List.set_cons_zero, List.set_cons_succ] at hH
  subst hH
  rw [show pClean [] = ([47], (0 : Int)) by rfl]
  refine ops_ro' rfl (ro_move rfl) rfl ?_
  refine ops_ro' rfl (ro_extract rfl rfl) rfl ?_
  refine ops_ro' rfl (ro_extract rfl rfl) rfl ?_
  refine ops_ro' rfl (ro_assign rfl) rfl ?_
  refine ops_ro' rfl (ro_assign rfl) rfl ?_
  refine ops_nil ?_
  refine Then_normal ?_
  refine wp_seq' ?_
  refine wp_region' ?_
  refine ops_ro' rfl (ro_move rfl) rfl ?_
  refine ops_ro' rfl (ro_eqlS rfl rfl (decide_eq_true (by decide))) rfl ?_
  refine ops_ro' rfl (ro_move (v := .bool true) rfl) rfl ?_
  refine ops_ro' rfl (ro_move rfl) rfl ?_
  refine ops_ro' rfl (ro_eql rfl rfl (decide_eq_true (by omega))) rfl ?_
  refine ops_ro' rfl (ro_pick rfl rfl) rfl ?_
  refine ops_ro' rfl (ro_move (v := .bool true) rfl) rfl ?_
  refine ops_ro' rfl (ro_move rfl) rfl ?_
  refine ops_ro' rfl (ro_eqlS rfl rfl (decide_eq_true (by decide))) rfl ?_
  refine ops_ro' rfl (ro_pick rfl rfl) rfl ?_
  refine ops_ro' rfl (ro_move (v := .bool true) rfl) rfl ?_
  refine ops_ro' rfl (ro_move rfl) rfl ?_
  refine ops_ro' rfl (ro_eql rfl rfl (decide_eq_true (by omega))) rfl ?_
  refine ops_ro' rfl (ro_pick rfl rfl) rfl ?_
  refine ops_ro' rfl (ro_move (v := .bool true) rfl) rfl ?_
  refine ops_eff' rfl (eff_call Tryd.call16 rfl rfl (by repeat (first | exact Split.nil _ | apply Split.cons 0 rfl | apply Split.cons 1 rfl | apply Split.cons 2 rfl | apply Split.cons 3 rfl | apply Split.cons 4 rfl | apply Split.cons 5 rfl | apply Split.cons 6 rfl | apply Split.cons 7 rfl | apply Split.cons 8 rfl | apply Split.cons 9 rfl | apply Split.cons 10 rfl | apply Split.cons 11 rfl)) (ptRight_spec [97] (by decide))) rfl ?_
  rintro _ H' ⟨_, ⟨rfl, rfl⟩, hH⟩
  simp only [List.cons_append, List.nil_append, List.eraseIdx_cons_zero, List.eraseIdx_cons_succ, List.set_cons_zero, List.set_cons_succ] at hH
  subst hH
  rw [show ptOk [97] = true by rfl]
  refine ops_ro' rfl (ro_pick rfl rfl) rfl ?_
  refine ops_ro' rfl (ro_move (v := .bool true) rfl) rfl ?_
  refine ops_eff' rfl (eff_call Tryd.call16 rfl rfl (by repeat (first | exact Split.nil _ | apply Split.cons 0 rfl | apply Split.cons 1 rfl | apply Split.cons 2 rfl | apply Split.cons 3 rfl | apply Split.cons 4 rfl | apply Split.cons 5 rfl | apply Split.cons 6 rfl | apply Split.cons 7 rfl | apply Split.cons 8 rfl | apply Split.cons 9 rfl | apply Split.cons 10 rfl | apply Split.cons 11 rfl)) (ptRight_spec [46, 46] (by decide))) rfl ?_
  rintro _ H' ⟨_, ⟨rfl, rfl⟩, hH⟩
  simp only [List.cons_append, List.nil_append, List.eraseIdx_cons_zero, List.eraseIdx_cons_succ, List.set_cons_zero, List.set_cons_succ] at hH
  subst hH
  rw [show ptOk [46, 46] = false by rfl]
  refine ops_ro' rfl (ro_not rfl rfl) rfl ?_
  refine ops_ro' rfl (ro_pick rfl rfl) rfl ?_
  refine ops_ro' rfl (ro_assign rfl) rfl ?_
  refine ops_nil ?_
  refine Then_normal ?_
  refine wp_ret' ?_
  refine' doneS_ret (res1 rfl rfl) ?_ ?_
  rotate_left 1
  exact ⟨rfl, rfl⟩
  exact SubH.refl _

end Go.Proofs.YtigaolglnnjnmaaDoor
