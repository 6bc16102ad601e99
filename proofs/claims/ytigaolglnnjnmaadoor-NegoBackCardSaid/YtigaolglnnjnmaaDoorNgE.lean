/-
  Package nego: a line, lists as bytes.
-/
import Derived.Test.YtigaolglnnjnmaaDoorNgP
import Derived.Test.YtigaolglnnjnmaaDoorNames
namespace Go.Proofs.YtigaolglnnjnmaaDoor
open Go.Sx
set_option linter.unusedVariables false
set_option linter.unusedSimpArgs false
set_option maxRecDepth 100000
set_option maxHeartbeats 4000000

theorem conv_b8 (i : Int) : IntKind.u8.wrap i = ((b8 i).toNat : Int) := by
  rw [wrap_u8_mod]; unfold b8; rw [UInt8.toNat_ofNat']; omega
theorem wbool_spec (pw : Nat) (p : Option Addr) (c : Nat) (l : List UInt8) (b : Bool) (hl : l.length ≤ 70368744177664) :
    Tri Tryd.prog 46 [.pointer (some ⟨pw, 0, none⟩), .bool b] (wr pw p c l) (fun v H' => ∃ p' c', v = .tuple #[] ∧ H' = wr pw p' c' (l ++ [b8 (if b then 1 else 0)])) := by
  cases b
  · skip
    refine tri_of_wp Tryd.func46 rfl Tryd.ntmps46 (by simp) ?_
    refine wp_seq' ?_
    refine wp_region' ?_
    refine ops_ro' rfl (ro_assign rfl) rfl ?_
    refine ops_nil ?_
    repeat (first | refine InBlock_normal ?_ | refine NoGoto_normal ?_ | refine Jump_normal ?_)
    refine Then_normal ?_
    refine wp_seq' ?_
    refine wp_seq' ?_
    refine wp_region' ?_
    refine ops_ro' rfl (ro_move rfl) rfl ?_
    refine ops_nil ?_
    repeat (first | refine InBlock_normal ?_ | refine NoGoto_normal ?_ | refine Jump_normal ?_)
    refine Then_normal ?_
    refine wp_condF rfl ?_
    refine wp_skip' ?_
    repeat (first | refine InBlock_normal ?_ | refine NoGoto_normal ?_ | refine Jump_normal ?_)
    refine Then_normal ?_
    refine wp_region' ?_
    refine ops_ro' rfl (ro_move rfl) rfl ?_
    refine ops_ro' rfl (ro_move rfl) rfl ?_
    refine ops_eff' rfl (eff_call Tryd.call40 rfl rfl (Split.cons 0 rfl (Split.cons 0 rfl (Split.nil _))) (byte_spec pw p c l 0 (by omega))) rfl ?_
    rintro _ H' ⟨_, ⟨p', c', rfl, rfl⟩, hH⟩
    simp only [List.cons_append, List.nil_append, List.eraseIdx_cons_zero, List.eraseIdx_cons_succ, List.set_cons_zero, List.set_cons_succ] at hH
    subst hH
    refine ops_nil ?_
    repeat (first | refine InBlock_normal ?_ | refine NoGoto_normal ?_ | refine Jump_normal ?_)
    refine done_normal (res0 rfl) ?_
    exact ⟨p', c', rfl, rfl⟩
  · skip
    refine tri_of_wp Tryd.func46 rfl Tryd.ntmps46 (by simp) ?_
    refine wp_seq' ?_
    refine wp_region' ?_
    refine ops_ro' rfl (ro_assign rfl) rfl ?_
    refine ops_nil ?_
    repeat (first | refine InBlock_normal ?_ | refine NoGoto_normal ?_ | refine Jump_normal ?_)
    refine Then_normal ?_
    refine wp_seq' ?_
    refine wp_seq' ?_
    refine wp_region' ?_
    refine ops_ro' rfl (ro_move rfl) rfl ?_
    refine ops_nil ?_
    repeat (first | refine InBlock_normal ?_ | refine NoGoto_normal ?_ | refine Jump_normal ?_)
    refine Then_normal ?_
    refine wp_condT rfl ?_
    refine wp_region' ?_
    refine ops_ro' rfl (ro_assign rfl) rfl ?_
    refine ops_nil ?_
    repeat (first | refine InBlock_normal ?_ | refine NoGoto_normal ?_ | refine Jump_normal ?_)
    refine Then_normal ?_
    refine wp_region' ?_
    refine ops_ro' rfl (ro_move rfl) rfl ?_
    refine ops_ro' rfl (ro_move rfl) rfl ?_
    refine ops_eff' rfl (eff_call Tryd.call40 rfl rfl (Split.cons 0 rfl (Split.cons 0 rfl (Split.nil _))) (byte_spec pw p c l 1 (by omega))) rfl ?_
    rintro _ H' ⟨_, ⟨p', c', rfl, rfl⟩, hH⟩
    simp only [List.cons_append, List.nil_append, List.eraseIdx_cons_zero, List.eraseIdx_cons_succ, List.set_cons_zero, List.set_cons_succ] at hH
    subst hH
    refine ops_nil ?_
    repeat (first | refine InBlock_normal ?_ | refine NoGoto_normal ?_ | refine Jump_normal ?_)
    refine done_normal (res0 rfl) ?_
    exact ⟨p', c', rfl, rfl⟩
theorem wraw_spec (V : HProp) (q : Option Addr) (cq : Nat) (x : List UInt8) (hV : Vw V (.slice q x.length cq) x.length (cel x)) (pw : Nat) (p : Option Addr) (c : Nat) (l : List UInt8) (hl : l.length ≤ 35184372088832) (hx : x.length ≤ 35184372088832) :
    Tri Tryd.prog 41 [.pointer (some ⟨pw, 0, none⟩), .slice q x.length cq] (wr pw p c l ++ [V]) (fun v H' => ∃ p' c', v = .tuple #[] ∧ H' = wr pw p' c' (l ++ x) ++ [V]) := by
  refine tri_of_wp Tryd.func41 rfl Tryd.ntmps41 (by simp) ?_
  refine wp_region' ?_
  refine ops_ro' rfl (ro_move rfl) rfl ?_
  refine ops_ro' rfl (ro_move rfl) rfl ?_
  refine ops_ro' rfl (ro_nilCheck rfl) rfl ?_
  refine ops_ro' rfl (ro_fieldAddr fa96_0 rfl) rfl ?_
  refine ops_ro' rfl (ro_load sc22 rfl (by first | exact Rd.pick 0 rfl (by first | exact Rd.own rfl | exact Rd.row rfl) | exact Rd.pick 1 rfl (by first | exact Rd.own rfl | exact Rd.row rfl) | exact Rd.pick 2 rfl (by first | exact Rd.own rfl | exact Rd.row rfl) | exact Rd.pick 3 rfl (by first | exact Rd.own rfl | exact Rd.row rfl) | exact Rd.pick 4 rfl (by first | exact Rd.own rfl | exact Rd.row rfl) | exact Rd.pick 5 rfl (by first | exact Rd.own rfl | exact Rd.row rfl) | exact Rd.pick 6 rfl (by first | exact Rd.own rfl | exact Rd.row rfl) | exact Rd.pick 7 rfl (by first | exact Rd.own rfl | exact Rd.row rfl))) rfl ?_
  refine ops_ro' rfl (ro_move rfl) rfl ?_
  refine ops_eff' rfl (eff_append (src := .slice q x.length cq) (m := x.length) (news := cel x) 1 sl22 (.inl ⟨_, Tryd.underlying22⟩) rfl rfl rfl (Src.of_vw (Vw.pick 1 rfl hV) (by simp [cel_length]) (cel_one x)) (by omega) (by simp only [maxLen]; omega)) rfl ?_
  rintro _ _ ⟨_, ⟨p', c', rfl, -, rfl⟩, rfl⟩
  refine ops_ro' rfl (ro_nilCheck rfl) rfl ?_
  refine ops_ro' rfl (ro_fieldAddr fa96_0 rfl) rfl ?_
  refine ops_eff0 rfl ((by first | exact eff_store 0 sc22 rfl rfl rfl rfl (Nat.le_of_ble_eq_true rfl) (warm_zero _) | exact eff_store 1 sc22 rfl rfl rfl rfl (Nat.le_of_ble_eq_true rfl) (warm_zero _) | exact eff_store 2 sc22 rfl rfl rfl rfl (Nat.le_of_ble_eq_true rfl) (warm_zero _) | exact eff_store 3 sc22 rfl rfl rfl rfl (Nat.le_of_ble_eq_true rfl) (warm_zero _) | exact eff_store 4 sc22 rfl rfl rfl rfl (Nat.le_of_ble_eq_true rfl) (warm_zero _) | exact eff_store 5 sc22 rfl rfl rfl rfl (Nat.le_of_ble_eq_true rfl) (warm_zero _) | exact eff_store 6 sc22 rfl rfl rfl rfl (Nat.le_of_ble_eq_true rfl) (warm_zero _) | exact eff_store 7 sc22 rfl rfl rfl rfl (Nat.le_of_ble_eq_true rfl) (warm_zero _))) rfl ?_
  rintro _ _ rfl
  refine ops_nil ?_
  repeat (first | refine InBlock_normal ?_ | refine NoGoto_normal ?_ | refine Jump_normal ?_)
  refine done_normal (res0 rfl) ?_
  refine ⟨p', c', rfl, ?_⟩
  rw [← List.length_append, ← cel_append]; rfl
theorem joined_c : ∀ xs : List (List UInt8), joined xs [44] = joinc 44 xs
  | [] => rfl
  | [x] => by rw [joined, Lib.join_one]; rfl
  | x :: y :: r => by
    have h := joined_c (y :: r)
    rw [joined, Lib.join_cons] at h ⊢
    rw [joinc_cons 44 x (by simp), ← h]
    simp [Lib.joinTail]
theorem tri_K {f : FuncId} {args : List Value} {V : HProp} {pw : Nat} {p : Option Addr} {c : Nat} {a a2 : List UInt8} (h : Tri Tryd.prog f args (wr pw p c a ++ [V]) (fun v H' => ∃ p' c', v = .tuple #[] ∧ H' = wr pw p' c' a2 ++ [V])) :
    Tri Tryd.prog f args (wr pw p c a ++ [V]) (fun v H' => ∃ K, (∃ p' c', v = .tuple #[] ∧ K = wr pw p' c' a2) ∧ H' = K ++ [V]) := tri_post h fun v H' ⟨p', c', h1, h2⟩ => ⟨_, ⟨p', c', h1, rfl⟩, h2⟩
theorem joinc_spec (V : HProp) (s : Lt) (hv : Vw V s.v s.l.length (txs s.l)) (hc : s.l.length ≤ s.c) (hm : Lsm s) : Tri Tryd.prog 35 [s.v, .string (str [44])] [V] (fun v H' => ∃ K, (v = .string (str (joinc 44 s.l)) ∧ K = []) ∧ H' = K ++ [V]) := by
  have h1 := joinc_le s.l hm.2
  have h2 := hm.1
  refine tri_post (join_spec V s.p s.c s.l [44] (by rw [← txs_map]; exact hv) hc (by omega) (by rw [joined_c]; omega)) fun v H' ⟨h3, h4⟩ => ⟨[], ⟨by rw [h3, joined_c], rfl⟩, h4⟩
theorem nmsw_spec (V : HProp) (s : Lt) (hv : Vw V s.v s.l.length (txs s.l)) (hc : s.l.length ≤ s.c) (hm : Lsm s) (pw : Nat) (p : Option Addr) (c : Nat) (acc : List UInt8) (ha : acc.length ≤ 35184372088832) :
    Tri Tryd.prog 45 [.pointer (some ⟨pw, 0, none⟩), s.v] (wr pw p c acc ++ [V]) (fun v H' => ∃ K, (∃ p' c', v = .tuple #[] ∧ K = wr pw p' c' (acc ++ (be (joinc 44 s.l).length 4 ++ joinc 44 s.l))) ∧ H' = K ++ [V]) := by
  have h1 := joinc_le s.l hm.2
  have h2 := hm.1
  refine tri_K (tri_post (names_spec V s.p s.c s.l (by rw [← txs_map]; exact hv) hc (by omega) (by rw [joined_c]; omega) pw p c acc ha) fun v H' h3 => ?_)
  rw [joined_c] at h3; exact h3


theorem line_spec (s : List UInt8) (hs : s.length ≤ 1000000) : Tri Tryd.prog 24 [.string (str s)] [] (fun v H' => ∃ p c b e, v = .tuple #[.slice p b.length c, .int .i64 e] ∧ ((e = 0 ∧ veOk s = true ∧ b = s ++ [13, 10]) ∨ (e ≠ 0 ∧ veOk s = false ∧ b = [])) ∧ H' = [row 5 1 (.slice p b.length c) b.length (cel b)]) := by
  refine tri_of_wpS Tryd.func24 rfl Tryd.ntmps24 (by simp) ?_
  refine wp_seq' ?_
  refine wp_region' ?_
  refine ops_ro' rfl (ro_assign rfl) rfl ?_
  refine ops_ro' rfl (ro_assign rfl) rfl ?_
  refine ops_nil ?_
  refine Then_normal ?_
  refine wp_seq' ?_
  refine wp_seq' ?_
  refine wp_region' ?_
  refine ops_ro' rfl (ro_move rfl) rfl ?_
  refine ops_eff' rfl (eff_call Tryd.call37 rfl rfl (by repeat (first | exact Split.nil _ | apply Split.cons 0 rfl | apply Split.cons 1 rfl | apply Split.cons 2 rfl | apply Split.cons 3 rfl | apply Split.cons 4 rfl | apply Split.cons 5 rfl | apply Split.cons 6 rfl | apply Split.cons 7 rfl | apply Split.cons 8 rfl | apply Split.cons 9 rfl | apply Split.cons 10 rfl | apply Split.cons 11 rfl)) (ngFine_spec s (by omega))) rfl ?_
  rintro _ H' ⟨_, ⟨rfl, rfl⟩, hH⟩
  simp only [List.cons_append, List.nil_append, List.eraseIdx_cons_zero, List.eraseIdx_cons_succ, List.set_cons_zero, List.set_cons_succ] at hH
  subst hH
  refine ops_ro' rfl (ro_not rfl rfl) rfl ?_
  refine ops_nil ?_
  refine Then_normal ?_
  refine wp_cond' rfl (fun hc6 => ?_) (fun hc6 => ?_)
  · simp only [Bool.and_eq_true, decide_eq_true_eq, Bool.not_eq_true', decide_eq_false_iff_not, bne_iff_ne, ne_eq] at hc6
    replace hc6 : veOk s = false := by simpa using hc6
    refine wp_seq' ?_
    refine wp_heap (fun w F s => nil_row 5 1 w F s) ?_
    refine wp_region' ?_
    refine ops_ro' rfl (ro_assign rfl) rfl ?_
    refine ops_ro' rfl (ro_assign rfl) rfl ?_
    refine ops_nil ?_
    refine Then_normal ?_
    refine wp_ret' ?_
    refine Then_ret ?_
    refine' doneS_ret (res2 rfl rfl rfl) ?_ ?_
    rotate_left 1
    exact ⟨none, 0, [], 12, rfl, .inr ⟨by decide, hc6, rfl⟩, rfl⟩
    exact SubH.refl _
  · simp only [Bool.and_eq_false_iff, decide_eq_false_iff_not, Bool.not_eq_false', decide_eq_true_eq] at hc6
    replace hc6 : veOk s = true := by simpa using hc6
    refine wp_skip' ?_
    refine Then_normal ?_
    refine wp_seq' ?_
    refine wp_region' ?_
    refine ops_ro' rfl (ro_move rfl) rfl ?_
    refine ops_ro' rfl (ro_addS rfl rfl (by first | omega | (simp only [List.length_append, List.length_cons, List.length_nil] at *; omega))) rfl ?_
    refine ops_eff' rfl (eff_toBytesS Tryd.underlying9 Tryd.underlying22 Tryd.underlying5 rfl (by simp only [maxLen, List.length_append, List.length_cons, List.length_nil]; omega)) rfl ?_
    rintro _ _ ⟨b9, c9, rfl, rfl⟩
    refine ops_ro' rfl (ro_assign rfl) rfl ?_
    refine ops_ro' rfl (ro_assign rfl) rfl ?_
    refine ops_nil ?_
    refine Then_normal ?_
    refine wp_ret' ?_
    refine' doneS_ret (res2 rfl rfl rfl) ?_ ?_
    rotate_left 1
    exact ⟨_, _, _, 0, rfl, .inl ⟨rfl, hc6, rfl⟩, rfl⟩
    exact SubH.refl _


theorem encc1_spec (s : List UInt8) (hs : s.length ≤ 9223372036854775806) : Tri Tryd.prog 43 [.string (str s)] [] (fun v H' => v = .bool (!nmOk s) ∧ H' = []) := by
  refine tri_of_wpS Tryd.func43 rfl Tryd.ntmps43 (by simp) ?_
  refine wp_seq' ?_
  refine wp_region' ?_
  refine ops_ro' rfl (ro_assign rfl) rfl ?_
  refine ops_nil ?_
  refine Then_normal ?_
  refine wp_seq' ?_
  refine wp_region' ?_
  refine ops_ro' rfl (ro_move rfl) rfl ?_
  refine ops_eff' rfl (eff_call Tryd.call44 rfl rfl (by repeat (first | exact Split.nil _ | apply Split.cons 0 rfl | apply Split.cons 1 rfl | apply Split.cons 2 rfl | apply Split.cons 3 rfl | apply Split.cons 4 rfl | apply Split.cons 5 rfl | apply Split.cons 6 rfl | apply Split.cons 7 rfl | apply Split.cons 8 rfl | apply Split.cons 9 rfl | apply Split.cons 10 rfl | apply Split.cons 11 rfl)) (wName_spec _ (by omega))) rfl ?_
  rintro _ H' ⟨_, ⟨rfl, rfl⟩, hH⟩
  simp only [List.cons_append, List.nil_append, List.eraseIdx_cons_zero, List.eraseIdx_cons_succ, List.set_cons_zero, List.set_cons_succ] at hH
  subst hH
  refine ops_ro' rfl (ro_not rfl rfl) rfl ?_
  refine ops_ro' rfl (ro_assign rfl) rfl ?_
  refine ops_nil ?_
  refine Then_normal ?_
  refine wp_ret' ?_
  refine' doneS_ret (res1 rfl rfl) ?_ ?_
  rotate_left 1
  exact ⟨rfl, rfl⟩
  exact SubH.refl _
theorem idxE_spec (V : HProp) (l : List (List UInt8)) (q : Option Addr) (cq : Nat) (hV : Vw V (.slice q l.length cq) l.length (txs l)) (hl : l.length ≤ 140737488355328) (hsm : ∀ x ∈ l, x.length ≤ 140737488355328) :
    Tri Tryd.prog 68 [.slice q l.length cq, .func (.func 43) #[] #[]] [V] (fun v H' => ∃ K, (∃ k : Int, v = .int .i64 k ∧ ((0 ≤ k ∧ l.all nmOk = false) ∨ (k < 0 ∧ l.all nmOk = true)) ∧ K = []) ∧ H' = K ++ [V]) := by
  refine tri_of_wpS Tryd.func68 rfl Tryd.ntmps68 (by simp) ?_
  refine wp_seq' ?_
  refine wp_region' ?_
  refine ops_ro' rfl (ro_assign rfl) rfl ?_
  refine ops_nil ?_
  refine Then_normal ?_
  refine wp_seq' ?_
  refine wp_seq' ?_
  refine wp_region' ?_
  refine ops_ro' rfl (ro_move rfl) rfl ?_
  refine ops_ro' rfl (ro_sliceLen Tryd.underlying24 rfl) rfl ?_
  refine ops_ro' rfl (ro_move rfl) rfl ?_
  refine ops_nil ?_
  refine Then_normal ?_
  refine wp_block' ?_
  refine wp_loopK 2 (fun m Δ LL => ∃ (i : Nat), (i + m = l.length ∧ (l.take i).all nmOk = true) ∧ Δ = [(8, .int .i64 (i : Nat))] ∧ LL = [V]) (m := l.length) (Has.cons (k := 0) rfl (Has.cons (k := 1) rfl (Has.cons (k := 7) rfl (Has.nil _)))) (kept ⟨0, ⟨by omega, by simp⟩, rfl, rfl⟩ (by repeat (first | exact Has.nil _ | refine Has.cons rfl ?_)) (by repeat (first | exact Has.nil _ | refine Has.cons rfl ?_)) (by repeat (first | exact SubH.nil _ | refine SubH.cons 0 rfl ?_ | refine SubH.cons 1 rfl ?_ | refine SubH.cons 2 rfl ?_ | refine SubH.cons 3 rfl ?_ | refine SubH.cons 4 rfl ?_ | refine SubH.cons 5 rfl ?_ | refine SubH.cons 6 rfl ?_ | refine SubH.cons 7 rfl ?_ | refine SubH.cons 8 rfl ?_ | refine SubH.cons 9 rfl ?_ | refine SubH.cons 10 rfl ?_ | refine SubH.cons 11 rfl ?_ | refine SubH.cons 12 rfl ?_ | refine SubH.cons 13 rfl ?_ | refine SubH.rown ?_))) ?_
  rintro m Δ LL ⟨i, ⟨hm, ht⟩, rfl, rfl⟩
  simp only [List.cons_append, List.nil_append]
  refine wp_seq' ?_
  refine wp_region' ?_
  refine ops_ro' rfl (ro_lss rfl rfl rfl) rfl ?_
  refine ops_nil ?_
  refine Then_normal ?_
  refine wp_seq' ?_
  refine wp_cond' rfl (fun hc9 => ?_) (fun hc9 => ?_)
  · replace hc9 := of_decide_eq_true hc9
    have hi : i < l.length := by omega
    have hln := hsm l[i] (List.getElem_mem hi)
    refine wp_know (fun w F s => vw_ptr (Vw.pick (H := [V]) 0 rfl hV) s (by omega)) ?_
    rintro ⟨b0, o0, rfl⟩
    refine wp_skip' ?_
    refine Then_normal ?_
    refine wp_seq' ?_
    refine wp_block' ?_
    refine wp_seq' ?_
    refine wp_region' ?_
    refine ops_ro' rfl (ro_move rfl) rfl ?_
    refine ops_ro' rfl (ro_assign rfl) rfl ?_
    refine ops_nil ?_
    refine Then_normal ?_
    refine wp_seq' ?_
    refine wp_region' ?_
    refine ops_ro' rfl (ro_move rfl) rfl ?_
    refine ops_ro' rfl (ro_move rfl) rfl ?_
    refine ops_ro' rfl (ro_move rfl) rfl ?_
    refine ops_ro' rfl (ro_indexSlice sl24 rfl rfl rfl (by omega)) rfl ?_
    refine ops_ro' rfl (ro_load sc9 rfl (Rd.pick 0 rfl (Rd.elem (j := 0) (vw_rdn hV) Tx.len (List.getElem?_eq_getElem hi) rfl))) rfl ?_
    refine ops_eff' rfl (eff_callV (c0 := []) (c1 := []) Tryd.call43 rfl rfl rfl (by repeat (first | exact Split.nil _ | apply Split.cons 0 rfl | apply Split.cons 1 rfl | apply Split.cons 2 rfl | apply Split.cons 3 rfl | apply Split.cons 4 rfl | apply Split.cons 5 rfl | apply Split.cons 6 rfl | apply Split.cons 7 rfl | apply Split.cons 8 rfl | apply Split.cons 9 rfl | apply Split.cons 10 rfl | apply Split.cons 11 rfl)) (encc1_spec l[i] (by omega))) rfl ?_
    rintro _ H' ⟨_, ⟨rfl, rfl⟩, hH⟩
    simp only [List.cons_append, List.nil_append, List.eraseIdx_cons_zero, List.eraseIdx_cons_succ, List.set_cons_zero, List.set_cons_succ] at hH
    subst hH
    refine ops_nil ?_
    refine Then_normal ?_
    refine wp_cond' rfl (fun hc16 => ?_) (fun hc16 => ?_)
    · simp only [Bool.and_eq_true, decide_eq_true_eq, Bool.not_eq_true', decide_eq_false_iff_not, bne_iff_ne, ne_eq] at hc16
      skip
      refine wp_seq' ?_
      refine wp_region' ?_
      refine ops_ro' rfl (ro_move rfl) rfl ?_
      refine ops_ro' rfl (ro_assign rfl) rfl ?_
      refine ops_nil ?_
      refine Then_normal ?_
      refine wp_ret' ?_
      refine InBlock_ret ?_
      refine Then_ret ?_
      refine Then_ret ?_
      refine InBlock_ret ?_
      refine Then_ret ?_
      refine' doneS_ret (res1 rfl rfl) ?_ ?_
      rotate_left 1
      exact ⟨_, ⟨(i : Nat), rfl, .inl ⟨by omega, idx_no hi hc16⟩, rfl⟩, rfl⟩
      exact SubH.refl _
    · simp only [Bool.and_eq_false_iff, decide_eq_false_iff_not, Bool.not_eq_false', decide_eq_true_eq] at hc16
      skip
      refine wp_skip' ?_
      refine InBlock_normal ?_
      refine Then_normal ?_
      refine wp_region' ?_
      refine ops_ro' rfl (ro_add rfl rfl (wrap_inc (by omega))) rfl ?_
      refine ops_ro' rfl (ro_move rfl) rfl ?_
      refine ops_nil ?_
      refine Then_normal ?_
      refine back (m - 1) (by omega) (kept ⟨i + 1, ⟨by omega, by rw [List.take_succ_eq_append_getElem hi, List.all_append, ht]; simp_all⟩, rfl, rfl⟩ ?_ ?_ ?_)
      · exact (by repeat (first | exact Has.nil _ | refine Has.cons rfl ?_))
      · exact (by repeat (first | exact Has.nil _ | refine Has.cons rfl ?_))
      · exact SubH.refl _
  · replace hc9 := of_decide_eq_false hc9
    refine wp_exit' ?_
    refine Then_exit ?_
    refine Then_exit ?_
    refine InBlock_here ?_
    refine Then_normal ?_
    refine wp_seq' ?_
    refine wp_region' ?_
    refine ops_ro' rfl (ro_assign rfl) rfl ?_
    refine ops_nil ?_
    refine Then_normal ?_
    refine wp_ret' ?_
    refine' doneS_ret (res1 rfl rfl) ?_ ?_
    rotate_left 1
    exact ⟨_, ⟨-1, rfl, .inr ⟨by omega, by rw [List.take_of_length_le (by omega)] at ht; exact ht⟩, rfl⟩, rfl⟩
    exact SubH.refl _
theorem contE_spec (V : HProp) (l : List (List UInt8)) (q : Option Addr) (cq : Nat) (hV : Vw V (.slice q l.length cq) l.length (txs l)) (hl : l.length ≤ 140737488355328) (hsm : ∀ x ∈ l, x.length ≤ 140737488355328) :
    Tri Tryd.prog 42 [.slice q l.length cq, .func (.func 43) #[] #[]] [V] (fun v H' => ∃ K, (v = .bool (!l.all nmOk) ∧ K = []) ∧ H' = K ++ [V]) := by
  refine tri_of_wpS Tryd.func42 rfl Tryd.ntmps42 (by simp) ?_
  refine wp_seq' ?_
  refine wp_region' ?_
  refine ops_ro' rfl (ro_assign rfl) rfl ?_
  refine ops_nil ?_
  refine Then_normal ?_
  refine wp_seq' ?_
  refine wp_region' ?_
  refine ops_ro' rfl (ro_move rfl) rfl ?_
  refine ops_ro' rfl (ro_move rfl) rfl ?_
  refine ops_eff' rfl (eff_call Tryd.call68 rfl rfl (by repeat (first | exact Split.nil _ | apply Split.cons 0 rfl | apply Split.cons 1 rfl | apply Split.cons 2 rfl | apply Split.cons 3 rfl | apply Split.cons 4 rfl | apply Split.cons 5 rfl | apply Split.cons 6 rfl | apply Split.cons 7 rfl | apply Split.cons 8 rfl | apply Split.cons 9 rfl | apply Split.cons 10 rfl | apply Split.cons 11 rfl)) (idxE_spec V l q cq hV hl hsm)) rfl ?_
  rintro _ H' ⟨_, ⟨_, ⟨k, rfl, hk, rfl⟩, rfl⟩, hH⟩
  simp only [List.cons_append, List.nil_append, List.eraseIdx_cons_zero, List.eraseIdx_cons_succ, List.set_cons_zero, List.set_cons_succ] at hH
  subst hH
  refine ops_ro' rfl (ro_geq rfl rfl (c := !l.all nmOk) (by rcases hk with ⟨h1, h2⟩ | ⟨h1, h2⟩ <;> simp [h2] <;> omega)) rfl ?_
  refine ops_ro' rfl (ro_assign rfl) rfl ?_
  refine ops_nil ?_
  refine Then_normal ?_
  refine wp_ret' ?_
  refine' doneS_ret (res1 rfl rfl) ?_ ?_
  rotate_left 1
  exact ⟨_, ⟨rfl, rfl⟩, rfl⟩
  exact SubH.refl _
theorem contL_spec (V : HProp) (s : Lt) (hv : Vw V s.v s.l.length (txs s.l)) (hm : Lsm s) : Tri Tryd.prog 42 [s.v, .func (.func 43) #[] #[]] [V] (fun v H' => ∃ K, (v = .bool (!s.l.all nmOk) ∧ K = []) ∧ H' = K ++ [V]) :=
  contE_spec V s.l s.p s.c hv (by have := hm.1; omega) (fun x hx => by have := hm.2 x hx; omega)


theorem rdn_mid {b : Nat} {c : Value} {ns : List Lt} {f : Bool} {t : TypeId} {fr : Nat × Nat} (h : ns.length = 10) : RdN (own b (.cells (lcs c ns f).toArray t fr)) b 1 (ns.map Slv.v) := fun j v hj => by
  have h1 : j < ns.length := by have := (List.getElem?_eq_some_iff.1 hj).1; rwa [List.length_map] at this
  refine Rd.own ?_
  have h2 := lcs_at (c := c) (ns := ns) (f := f) h1
  rw [show 0 + 1 + j * 1 = 1 + j by omega] at h2
  rw [List.getElem?_map, List.getElem?_eq_getElem h1] at hj
  rw [h2]; exact hj
theorem map_at {ns : List Lt} {i : Nat} {s : Lt} (h : ns[i]? = some s) : (ns.map Slv.v)[i]? = some s.v := by rw [List.getElem?_map, h]; rfl
theorem ls_len {x : Li} : x.ls.length = x.ns.length := by rw [Li.ls, List.length_map]
theorem ls_at {x : Li} {i : Nat} {s : Lt} (h : x.ns[i]? = some s) : x.ls[i]? = some s.l := by rw [Li.ls, List.getElem?_map, h]; rfl
theorem ls_mem {x : Li} {i : Nat} {s : Lt} (h : x.ns[i]? = some s) : s.l ∈ x.ls := List.mem_of_getElem? (ls_at h)
/-- so far -/
def encTo (x : Li) (i : Nat) : List UInt8 := b8 20 :: (x.ck ++ encLs (x.ls.take i))
theorem encTo_succ {x : Li} {i : Nat} {s : Lt} (h : x.ns[i]? = some s) : encTo x (i + 1) = encTo x i ++ (be (joinc 44 s.l).length 4 ++ joinc 44 s.l) := by
  obtain ⟨hi, he⟩ := List.getElem?_eq_some_iff.1 (ls_at h)
  rw [encTo, encTo, encLs_succ hi, he]; simp
theorem encTo_ok {x : Li} {i : Nat} {s : Lt} (h : x.ns[i]? = some s) (ho : ∀ l ∈ x.ls.take i, lOk l) (h1 : lOk s.l) : ∀ l ∈ x.ls.take (i + 1), lOk l := fun l hl => by
  obtain ⟨hi, he⟩ := List.getElem?_eq_some_iff.1 (ls_at h)
  rw [List.take_succ_eq_append_getElem hi, List.mem_append, List.mem_singleton] at hl
  rcases hl with hl | hl
  · exact ho l hl
  · rw [hl, he]; exact h1
theorem encTo_len {x : Li} (h : x.ns.length = 10) (hm : x.Sm) (i : Nat) : (encTo x i).length ≤ 4081 := by
  have h1 := encLs_len (x.ls.take i) (fun l hl => by
    obtain ⟨s, hs, rfl⟩ := List.mem_map.1 (List.mem_of_mem_take hl)
    have := joinc_le s.l (hm.ns s hs).2
    have := (hm.ns s hs).1
    omega)
  rw [List.length_take, ls_len, h] at h1
  have := hm.ck
  rw [encTo, List.length_cons, List.length_append]; omega
theorem encTo_all {x : Li} (h : x.ns.length = 10) : encAll x.ck x.ls x.f = encTo x 10 ++ [b8 (if x.f then 1 else 0)] ++ be 0 4 := by
  rw [encTo, List.take_of_length_le (by rw [ls_len, h]; exact Nat.le_refl _), encAll]; simp
def enOk (x : Li) : Prop := x.ck.length = 16 ∧ ∀ l ∈ x.ls, lOk l
theorem enc_spec (V : HProp) (x : Li) (hx : x.Ok V) (hm2 : x.Sm) : Tri Tryd.prog 27 [x.v] [V] (fun v H' => ∃ K, (∃ p c bs e, v = .tuple #[.slice p bs.length c, .int .i64 e] ∧ ((e = 0 ∧ enOk x ∧ bs = encAll x.ck x.ls x.f) ∨ (e ≠ 0 ∧ ¬ enOk x ∧ bs = [])) ∧ K = [row 5 1 (.slice p bs.length c) bs.length (cel bs)]) ∧ H' = K ++ [V]) := by
  have hck := hm2.ck
  refine tri_of_wpS Tryd.func27 rfl Tryd.ntmps27 (by simp) ?_
  refine wp_seq' ?_
  refine wp_region' ?_
  refine ops_eff' rfl (eff_box rfl) rfl ?_
  rintro _ _ ⟨b1, rfl, rfl⟩
  refine ops_ro' rfl (ro_assign rfl) rfl ?_
  refine ops_ro' rfl (ro_assign rfl) rfl ?_
  refine ops_nil ?_
  refine Then_normal ?_
  refine wp_seq' ?_
  refine wp_seq' ?_
  refine wp_region' ?_
  refine ops_ro' rfl (ro_fieldAddr fa46_0 rfl) rfl ?_
  refine ops_ro' rfl (ro_load sc22 rfl (Rd.pick 0 rfl (Rd.own rfl))) rfl ?_
  refine ops_ro' rfl (ro_sliceLen Tryd.underlying22 rfl) rfl ?_
  refine ops_ro' rfl (ro_neq rfl rfl rfl) rfl ?_
  refine ops_nil ?_
  refine Then_normal ?_
  refine wp_cond' rfl (fun hc10 => ?_) (fun hc10 => ?_)
  · replace hc10 := of_decide_eq_true hc10
    refine wp_heap (fun w F s => nil_row 5 1 w F s) ?_
    refine wp_seq' ?_
    refine wp_region' ?_
    refine ops_ro' rfl (ro_assign rfl) rfl ?_
    refine ops_ro' rfl (ro_assign rfl) rfl ?_
    refine ops_nil ?_
    refine Then_normal ?_
    refine wp_ret' ?_
    refine Then_ret ?_
    refine' doneS_ret (res2 rfl rfl rfl) ?_ ?_
    rotate_left 1
    exact ⟨_, ⟨none, 0, [], 1, rfl, .inr ⟨by decide, fun h => by have := h.1; omega, rfl⟩, rfl⟩, rfl⟩
    exact (SubH.cons 0 rfl (SubH.cons 1 rfl (SubH.nil _)))
  · replace hc10 := of_decide_eq_false hc10
    refine wp_skip' ?_
    refine Then_normal ?_
    refine wp_seq' ?_
    refine wp_region' ?_
    refine ops_eff' rfl (eff_call Tryd.call39 rfl rfl (by repeat (first | exact Split.nil _ | apply Split.cons 0 rfl | apply Split.cons 1 rfl | apply Split.cons 2 rfl | apply Split.cons 3 rfl | apply Split.cons 4 rfl | apply Split.cons 5 rfl | apply Split.cons 6 rfl | apply Split.cons 7 rfl | apply Split.cons 8 rfl | apply Split.cons 9 rfl | apply Split.cons 10 rfl | apply Split.cons 11 rfl)) (newWriter_spec)) rfl ?_
    rintro _ H' ⟨_, ⟨pw, rfl, rfl⟩, hH⟩
    simp only [List.cons_append, List.nil_append, List.eraseIdx_cons_zero, List.eraseIdx_cons_succ, List.set_cons_zero, List.set_cons_succ] at hH
    subst hH
    refine ops_ro' rfl (ro_assign rfl) rfl ?_
    refine ops_nil ?_
    refine Then_normal ?_
    refine wp_seq' ?_
    refine wp_region' ?_
    refine ops_ro' rfl (ro_move rfl) rfl ?_
    refine ops_eff' rfl (eff_call Tryd.call40 rfl rfl (by repeat (first | exact Split.nil _ | apply Split.cons 0 rfl | apply Split.cons 1 rfl | apply Split.cons 2 rfl | apply Split.cons 3 rfl | apply Split.cons 4 rfl | apply Split.cons 5 rfl | apply Split.cons 6 rfl | apply Split.cons 7 rfl | apply Split.cons 8 rfl | apply Split.cons 9 rfl | apply Split.cons 10 rfl | apply Split.cons 11 rfl)) (byte_spec pw none 0 [] 20 (by simp))) rfl ?_
    rintro _ H' ⟨_, ⟨p13, c13, rfl, rfl⟩, hH⟩
    simp only [List.cons_append, List.nil_append, List.eraseIdx_cons_zero, List.eraseIdx_cons_succ, List.set_cons_zero, List.set_cons_succ] at hH
    subst hH
    skip
    refine ops_nil ?_
    refine Then_normal ?_
    refine wp_seq' ?_
    refine wp_region' ?_
    refine ops_ro' rfl (ro_move rfl) rfl ?_
    refine ops_ro' rfl (ro_fieldAddr fa46_0 rfl) rfl ?_
    refine ops_ro' rfl (ro_load sc22 rfl (Rd.pick 2 rfl (Rd.own rfl))) rfl ?_
    refine ops_eff' rfl (eff_callM (Pre := [_, _]) Tryd.call41 rfl rfl (by repeat (first | exact Split.nil _ | apply Split.cons 0 rfl | apply Split.cons 1 rfl | apply Split.cons 2 rfl | apply Split.cons 3 rfl | apply Split.cons 4 rfl | apply Split.cons 5 rfl | apply Split.cons 6 rfl | apply Split.cons 7 rfl | apply Split.cons 8 rfl | apply Split.cons 9 rfl | apply Split.cons 10 rfl | apply Split.cons 11 rfl)) (tri_K (wraw_spec _ x.cp x.cc x.ck (by first | exact (Vw.pick 0 rfl hx.ck) | exact (Vw.pick 1 rfl hx.ck) | exact (Vw.pick 2 rfl hx.ck) | exact (Vw.pick 3 rfl hx.ck) | exact (Vw.pick 4 rfl hx.ck) | exact (Vw.pick 5 rfl hx.ck) | exact (Vw.pick 0 rfl hv) | exact (Vw.pick 1 rfl hv) | exact (Vw.pick 2 rfl hv) | exact (Vw.pick 3 rfl hv) | exact (Vw.pick 4 rfl hv) | exact (Vw.pick 5 rfl hv) | exact Vw.pick 0 rfl Vw.row | exact Vw.pick 1 rfl Vw.row | exact Vw.pick 2 rfl Vw.row | exact Vw.pick 3 rfl Vw.row | exact Vw.pick 4 rfl Vw.row | exact Vw.pick 5 rfl Vw.row | exact Vw.nil _ | exact Vw.empty _ _) pw p13 c13 ([] ++ [b8 20]) (by decide) (by omega)))) rfl ?_
    rintro _ H' ⟨_, ⟨p17, c17, rfl, rfl⟩, hH⟩
    simp only [List.cons_append, List.nil_append, List.eraseIdx_cons_zero, List.eraseIdx_cons_succ, List.set_cons_zero, List.set_cons_succ] at hH
    subst hH
    rw [show b8 20 :: x.ck = encTo x 0 by simp [encTo, encLs]]
    refine ops_nil ?_
    refine Then_normal ?_
    refine wp_seq' ?_
    refine wp_seq' ?_
    refine wp_region' ?_
    refine ops_ro' rfl (ro_fieldAddr fa46_1 rfl) rfl ?_
    refine ops_ro' rfl (ro_loadA ag44 rfl (RdN.of_pick 2 rfl (rdn_mid hx.len)) (by rw [List.length_map]; exact hx.len)) rfl ?_
    refine ops_ro' rfl (ro_move rfl) rfl ?_
    refine ops_nil ?_
    refine Then_normal ?_
    refine wp_block' ?_
    refine wp_loopK 7 (fun m Δ LL => ∃ (i : Nat) (p : Option Addr) (c : Nat), (i + m = 10 ∧ ∀ l ∈ x.ls.take i, lOk l) ∧ Δ = [(20, .int .i64 (i : Nat))] ∧ LL = wr pw p c (encTo x i) ++ [own b1 (.cells (lcs (.slice x.cp x.ck.length x.cc) x.ns x.f).toArray 46 (0, 0)), V]) (m := 10) (Has.cons (k := 1) rfl (Has.cons (k := 4) rfl (Has.cons (k := 19) rfl (Has.nil _)))) (kept ⟨0, p17, c17, ⟨rfl, by simp⟩, rfl, rfl⟩ (by repeat (first | exact Has.nil _ | refine Has.cons rfl ?_)) (by repeat (first | exact Has.nil _ | refine Has.cons rfl ?_)) (by repeat (first | exact SubH.nil _ | refine SubH.cons 0 rfl ?_ | refine SubH.cons 1 rfl ?_ | refine SubH.cons 2 rfl ?_ | refine SubH.cons 3 rfl ?_ | refine SubH.cons 4 rfl ?_ | refine SubH.cons 5 rfl ?_ | refine SubH.cons 6 rfl ?_ | refine SubH.cons 7 rfl ?_ | refine SubH.cons 8 rfl ?_ | refine SubH.cons 9 rfl ?_ | refine SubH.cons 10 rfl ?_ | refine SubH.cons 11 rfl ?_ | refine SubH.cons 12 rfl ?_ | refine SubH.cons 13 rfl ?_ | refine SubH.rown ?_))) ?_
    rintro m Δ LL ⟨i, p, c, ⟨hm, hok⟩, rfl, rfl⟩
    simp only [List.cons_append, List.nil_append]
    refine wp_seq' ?_
    refine wp_region' ?_
    refine ops_ro' rfl (ro_lss rfl rfl rfl) rfl ?_
    refine ops_nil ?_
    refine Then_normal ?_
    refine wp_seq' ?_
    refine wp_cond' rfl (fun hc21 => ?_) (fun hc21 => ?_)
    · replace hc21 := of_decide_eq_true hc21
      have hi : i < x.ns.length := by rw [hx.len]; omega
      obtain ⟨s, hs⟩ : ∃ s, x.ns[i]? = some s := ⟨_, List.getElem?_eq_getElem hi⟩
      have hv := (hx.ns s (List.mem_of_getElem? hs)).1
      have hsc := (hx.ns s (List.mem_of_getElem? hs)).2.1
      have hsm := hm2.ns s (List.mem_of_getElem? hs)
      have hj := joinc_le s.l hsm.2
      have h6 := hsm.1
      have hli := encTo_len hx.len hm2 i
      refine wp_skip' ?_
      refine Then_normal ?_
      refine wp_seq' ?_
      refine wp_block' ?_
      refine wp_seq' ?_
      refine wp_region' ?_
      refine ops_ro' rfl (ro_indexC Tryd.underlying44 sc24 rfl rfl rfl (by omega) (map_at hs)) rfl ?_
      refine ops_ro' rfl (ro_assign rfl) rfl ?_
      refine ops_nil ?_
      refine Then_normal ?_
      refine wp_seq' ?_
      refine wp_seq' ?_
      refine wp_region' ?_
      refine ops_ro' rfl (ro_move rfl) rfl ?_
      refine ops_eff' rfl (eff_callM (Pre := []) Tryd.call42 rfl rfl (Split.nil _) (contL_spec _ s (by first | exact (Vw.pick 0 rfl hx.ck) | exact (Vw.pick 1 rfl hx.ck) | exact (Vw.pick 2 rfl hx.ck) | exact (Vw.pick 3 rfl hx.ck) | exact (Vw.pick 4 rfl hx.ck) | exact (Vw.pick 5 rfl hx.ck) | exact (Vw.pick 0 rfl hv) | exact (Vw.pick 1 rfl hv) | exact (Vw.pick 2 rfl hv) | exact (Vw.pick 3 rfl hv) | exact (Vw.pick 4 rfl hv) | exact (Vw.pick 5 rfl hv) | exact Vw.pick 0 rfl Vw.row | exact Vw.pick 1 rfl Vw.row | exact Vw.pick 2 rfl Vw.row | exact Vw.pick 3 rfl Vw.row | exact Vw.pick 4 rfl Vw.row | exact Vw.pick 5 rfl Vw.row | exact Vw.nil _ | exact Vw.empty _ _) hsm)) rfl ?_
      rintro _ H' ⟨_, ⟨rfl, rfl⟩, hH⟩
      simp only [List.cons_append, List.nil_append, List.eraseIdx_cons_zero, List.eraseIdx_cons_succ, List.set_cons_zero, List.set_cons_succ] at hH
      subst hH
      refine ops_split rfl rfl rfl (fun hg25 => ?_) (fun hg25 => ?_)
      · simp only [Bool.and_eq_true, decide_eq_true_eq, Bool.not_eq_true', decide_eq_false_iff_not, bne_iff_ne, ne_eq] at hg25
        refine ops_skip' rfl rfl ?_
        refine ops_skip' rfl rfl ?_
        refine ops_skip' rfl rfl ?_
        refine ops_skip' rfl rfl ?_
        refine ops_ro' rfl (ro_pick rfl rfl) rfl ?_
        refine ops_nil ?_
        refine Then_normal ?_
        refine wp_condT rfl ?_
        refine wp_seq' ?_
        refine wp_heap (fun w F s => nil_row 5 1 w F s) ?_
        refine wp_region' ?_
        refine ops_ro' rfl (ro_assign rfl) rfl ?_
        refine ops_ro' rfl (ro_assign rfl) rfl ?_
        refine ops_nil ?_
        refine Then_normal ?_
        refine wp_ret' ?_
        refine Then_ret ?_
        refine InBlock_ret ?_
        refine Then_ret ?_
        refine Then_ret ?_
        refine InBlock_ret ?_
        refine Then_ret ?_
        refine' doneS_ret (res2 rfl rfl rfl) ?_ ?_
        rotate_left 1
        exact ⟨_, ⟨none, 0, [], 12, rfl, .inr ⟨by decide, fun h => by have := (h.2 s.l (ls_mem hs)).1; simp_all, rfl⟩, rfl⟩, rfl⟩
        exact (SubH.cons 0 rfl (SubH.cons 3 rfl (SubH.nil _)))
      · simp only [Bool.and_eq_false_iff, decide_eq_false_iff_not, Bool.not_eq_false', decide_eq_true_eq] at hg25
        have hl1 : lOk s.l := ⟨by simpa using hg25, by omega⟩
        refine ops_ro' rfl (ro_move rfl) rfl ?_
        refine ops_eff' rfl (eff_callM (Pre := []) Tryd.call35 rfl rfl (Split.nil _) (joinc_spec _ s (by first | exact (Vw.pick 0 rfl hx.ck) | exact (Vw.pick 1 rfl hx.ck) | exact (Vw.pick 2 rfl hx.ck) | exact (Vw.pick 3 rfl hx.ck) | exact (Vw.pick 4 rfl hx.ck) | exact (Vw.pick 5 rfl hx.ck) | exact (Vw.pick 0 rfl hv) | exact (Vw.pick 1 rfl hv) | exact (Vw.pick 2 rfl hv) | exact (Vw.pick 3 rfl hv) | exact (Vw.pick 4 rfl hv) | exact (Vw.pick 5 rfl hv) | exact Vw.pick 0 rfl Vw.row | exact Vw.pick 1 rfl Vw.row | exact Vw.pick 2 rfl Vw.row | exact Vw.pick 3 rfl Vw.row | exact Vw.pick 4 rfl Vw.row | exact Vw.pick 5 rfl Vw.row | exact Vw.nil _ | exact Vw.empty _ _) hsc hsm)) rfl ?_
        rintro _ H' ⟨_, ⟨rfl, rfl⟩, hH⟩
        simp only [List.cons_append, List.nil_append, List.eraseIdx_cons_zero, List.eraseIdx_cons_succ, List.set_cons_zero, List.set_cons_succ] at hH
        subst hH
        refine ops_ro' rfl (ro_lenS (t' := 0) Tryd.underlying9 rfl) rfl ?_
        refine ops_ro' rfl (ro_gtr rfl rfl (decide_eq_false (by omega))) rfl ?_
        refine ops_ro' rfl (ro_pick rfl rfl) rfl ?_
        refine ops_nil ?_
        refine Then_normal ?_
        refine wp_condF rfl ?_
        refine wp_skip' ?_
        refine Then_normal ?_
        refine wp_region' ?_
        refine ops_ro' rfl (ro_move rfl) rfl ?_
        refine ops_ro' rfl (ro_move rfl) rfl ?_
        refine ops_eff' rfl (eff_callM (Pre := [_, _]) Tryd.call45 rfl rfl (by repeat (first | exact Split.nil _ | apply Split.cons 0 rfl | apply Split.cons 1 rfl | apply Split.cons 2 rfl | apply Split.cons 3 rfl | apply Split.cons 4 rfl | apply Split.cons 5 rfl | apply Split.cons 6 rfl | apply Split.cons 7 rfl | apply Split.cons 8 rfl | apply Split.cons 9 rfl | apply Split.cons 10 rfl | apply Split.cons 11 rfl)) (nmsw_spec _ s (by first | exact (Vw.pick 0 rfl hx.ck) | exact (Vw.pick 1 rfl hx.ck) | exact (Vw.pick 2 rfl hx.ck) | exact (Vw.pick 3 rfl hx.ck) | exact (Vw.pick 4 rfl hx.ck) | exact (Vw.pick 5 rfl hx.ck) | exact (Vw.pick 0 rfl hv) | exact (Vw.pick 1 rfl hv) | exact (Vw.pick 2 rfl hv) | exact (Vw.pick 3 rfl hv) | exact (Vw.pick 4 rfl hv) | exact (Vw.pick 5 rfl hv) | exact Vw.pick 0 rfl Vw.row | exact Vw.pick 1 rfl Vw.row | exact Vw.pick 2 rfl Vw.row | exact Vw.pick 3 rfl Vw.row | exact Vw.pick 4 rfl Vw.row | exact Vw.pick 5 rfl Vw.row | exact Vw.nil _ | exact Vw.empty _ _) hsc hsm pw p c (encTo x i) (by omega))) rfl ?_
        rintro _ H' ⟨_, ⟨p33, c33, rfl, rfl⟩, hH⟩
        simp only [List.cons_append, List.nil_append, List.eraseIdx_cons_zero, List.eraseIdx_cons_succ, List.set_cons_zero, List.set_cons_succ] at hH
        subst hH
        rw [← encTo_succ hs]
        refine ops_nil ?_
        refine InBlock_normal ?_
        refine Then_normal ?_
        refine wp_region' ?_
        refine ops_ro' rfl (ro_add rfl rfl (wrap_inc (by omega))) rfl ?_
        refine ops_ro' rfl (ro_move rfl) rfl ?_
        refine ops_nil ?_
        refine Then_normal ?_
        refine back (m - 1) (by omega) (kept ⟨i + 1, p33, c33, ⟨by omega, encTo_ok hs hok hl1⟩, rfl, rfl⟩ ?_ ?_ ?_)
        · exact (by repeat (first | exact Has.nil _ | refine Has.cons rfl ?_))
        · exact (by repeat (first | exact Has.nil _ | refine Has.cons rfl ?_))
        · exact SubH.refl _
    · replace hc21 := of_decide_eq_false hc21
      refine wp_exit' ?_
      refine Then_exit ?_
      refine Then_exit ?_
      refine InBlock_here ?_
      refine Then_normal ?_
      refine wp_seq' ?_
      obtain rfl : i = 10 := by omega
      have hl10 := encTo_len hx.len hm2 10
      refine wp_region' ?_
      refine ops_ro' rfl (ro_move rfl) rfl ?_
      refine ops_ro' rfl (ro_fieldAddr fa46_2 rfl) rfl ?_
      refine ops_ro' rfl (ro_load sc4 rfl (Rd.pick 2 rfl (Rd.own (lcs_last hx.len)))) rfl ?_
      refine ops_eff' rfl (eff_call Tryd.call46 rfl rfl (by repeat (first | exact Split.nil _ | apply Split.cons 0 rfl | apply Split.cons 1 rfl | apply Split.cons 2 rfl | apply Split.cons 3 rfl | apply Split.cons 4 rfl | apply Split.cons 5 rfl | apply Split.cons 6 rfl | apply Split.cons 7 rfl | apply Split.cons 8 rfl | apply Split.cons 9 rfl | apply Split.cons 10 rfl | apply Split.cons 11 rfl)) (wbool_spec pw p c (encTo x 10) x.f (by omega))) rfl ?_
      rintro _ H' ⟨_, ⟨p38, c38, rfl, rfl⟩, hH⟩
      simp only [List.cons_append, List.nil_append, List.eraseIdx_cons_zero, List.eraseIdx_cons_succ, List.set_cons_zero, List.set_cons_succ] at hH
      subst hH
      refine ops_nil ?_
      refine Then_normal ?_
      refine wp_seq' ?_
      refine wp_region' ?_
      refine ops_ro' rfl (ro_move rfl) rfl ?_
      refine ops_eff' rfl (eff_call Tryd.call47 rfl rfl (by repeat (first | exact Split.nil _ | apply Split.cons 0 rfl | apply Split.cons 1 rfl | apply Split.cons 2 rfl | apply Split.cons 3 rfl | apply Split.cons 4 rfl | apply Split.cons 5 rfl | apply Split.cons 6 rfl | apply Split.cons 7 rfl | apply Split.cons 8 rfl | apply Split.cons 9 rfl | apply Split.cons 10 rfl | apply Split.cons 11 rfl)) (u32_at pw p38 c38 (encTo x 10 ++ [b8 (if x.f then 1 else 0)]) 0 0 rfl (by decide) (by simp; omega))) rfl ?_
      rintro _ H' ⟨_, ⟨p40, c40, rfl, rfl⟩, hH⟩
      simp only [List.cons_append, List.nil_append, List.eraseIdx_cons_zero, List.eraseIdx_cons_succ, List.set_cons_zero, List.set_cons_succ] at hH
      subst hH
      refine ops_nil ?_
      refine Then_normal ?_
      refine wp_seq' ?_
      refine wp_region' ?_
      refine ops_ro' rfl (ro_move rfl) rfl ?_
      refine ops_eff' rfl (eff_call Tryd.call48 rfl rfl (by repeat (first | exact Split.nil _ | apply Split.cons 0 rfl | apply Split.cons 1 rfl | apply Split.cons 2 rfl | apply Split.cons 3 rfl | apply Split.cons 4 rfl | apply Split.cons 5 rfl | apply Split.cons 6 rfl | apply Split.cons 7 rfl | apply Split.cons 8 rfl | apply Split.cons 9 rfl | apply Split.cons 10 rfl | apply Split.cons 11 rfl)) (done_spec pw p40 c40 (encTo x 10 ++ [b8 (if x.f then 1 else 0)] ++ be 0 4) (by simp [be_length]; omega))) rfl ?_
      rintro _ H' ⟨_, ⟨pd, cd, rfl, _, rfl⟩, hH⟩
      simp only [List.cons_append, List.nil_append, List.eraseIdx_cons_zero, List.eraseIdx_cons_succ, List.set_cons_zero, List.set_cons_succ] at hH
      subst hH
      refine ops_ro' rfl (ro_assign rfl) rfl ?_
      refine ops_ro' rfl (ro_assign rfl) rfl ?_
      refine ops_nil ?_
      refine Then_normal ?_
      refine wp_ret' ?_
      rw [← encTo_all hx.len]
      refine' doneS_ret (res2 rfl rfl rfl) ?_ ?_
      rotate_left 1
      exact ⟨_, ⟨pd, cd, _, 0, rfl, .inl ⟨rfl, ⟨by omega, by rw [List.take_of_length_le (by rw [ls_len, hx.len]; exact Nat.le_refl _)] at hok; exact hok⟩, rfl⟩, rfl⟩, rfl⟩
      exact (SubH.cons 0 rfl (SubH.cons 3 rfl (SubH.nil _)))

end Go.Proofs.YtigaolglnnjnmaaDoor
