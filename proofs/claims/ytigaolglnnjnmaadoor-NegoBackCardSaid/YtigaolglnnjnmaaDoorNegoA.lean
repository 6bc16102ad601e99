/-
  Package nego: Choose; versions.
-/
import Derived.Test.YtigaolglnnjnmaaDoorSxMake
import Derived.Test.YtigaolglnnjnmaaDoorSxSub
import Derived.Test.YtigaolglnnjnmaaDoorLib
import Derived.Test.YtigaolglnnjnmaaDoorTxt
import Derived.Test.YtigaolglnnjnmaaDoorRd1
namespace Go.Proofs.YtigaolglnnjnmaaDoor
open Go.Sx
set_option linter.unusedVariables false
set_option linter.unusedSimpArgs false
set_option maxRecDepth 100000
set_option maxHeartbeats 4000000

theorem sidx_spec (V : HProp) (q : Option Addr) (cq : Nat) (l : List (List UInt8)) (hV : Vw V (.slice q l.length cq) l.length (txs l)) (hl : l.length ≤ 140737488355328) (x : List UInt8) : Tri Tryd.prog 77 [.slice q l.length cq, .string (str x)] [V] (fun v H' => ∃ K, (∃ k : Int, v = .int .i64 k ∧ ((0 ≤ k ∧ x ∈ l) ∨ (k < 0 ∧ x ∉ l)) ∧ K = []) ∧ H' = K ++ [V]) := by
  refine tri_of_wpS Tryd.func77 rfl Tryd.ntmps77 (by simp) ?_
  refine wp_seq' ?_
  refine wp_region' ?_
  refine ops_ro' rfl (ro_assign rfl) rfl ?_
  refine ops_nil ?_
  refine Then_normal ?_
  refine wp_seq' ?_
  refine wp_seq' ?_
  refine wp_region' ?_
  refine ops_ro' rfl (ro_move rfl) rfl ?_
  refine ops_ro' rfl (ro_sliceLen Tryd.underlying24 rfl) rfl ?_
  refine ops_ro' rfl (ro_move rfl) rfl ?_
  refine ops_nil ?_
  refine Then_normal ?_
  refine wp_block' ?_
  refine wp_loopK 2 (fun m Δ LL => ∃ (i : Nat), (i + m = l.length ∧ x ∉ l.take i) ∧ Δ = [(8, .int .i64 (i : Nat))] ∧ LL = [V]) (m := l.length) (Has.cons (k := 0) rfl (Has.cons (k := 1) rfl (Has.cons (k := 7) rfl (Has.nil _)))) (kept ⟨0, ⟨by omega, by simp⟩, rfl, rfl⟩ (by repeat (first | exact Has.nil _ | refine Has.cons rfl ?_)) (by repeat (first | exact Has.nil _ | refine Has.cons rfl ?_)) (by repeat (first | exact SubH.nil _ | refine SubH.cons 0 rfl ?_ | refine SubH.cons 1 rfl ?_ | refine SubH.cons 2 rfl ?_ | refine SubH.cons 3 rfl ?_ | refine SubH.cons 4 rfl ?_ | refine SubH.cons 5 rfl ?_ | refine SubH.cons 6 rfl ?_ | refine SubH.cons 7 rfl ?_ | refine SubH.cons 8 rfl ?_ | refine SubH.cons 9 rfl ?_ | refine SubH.cons 10 rfl ?_ | refine SubH.cons 11 rfl ?_ | refine SubH.cons 12 rfl ?_ | refine SubH.cons 13 rfl ?_ | refine SubH.rown ?_))) ?_
  rintro m Δ LL ⟨i, ⟨hm, ht⟩, rfl, rfl⟩
  simp only [List.cons_append, List.nil_append]
  refine wp_seq' ?_
  refine wp_region' ?_
  refine ops_ro' rfl (ro_lss rfl rfl rfl) rfl ?_
  refine ops_nil ?_
  refine Then_normal ?_
  refine wp_seq' ?_
  refine wp_cond' rfl (fun hc9 => ?_) (fun hc9 => ?_)
  · replace hc9 := of_decide_eq_true hc9
    have hi : i < l.length := by omega
    refine wp_know (fun w F s => vw_ptr (Vw.pick (H := [V]) 0 rfl hV) s (by omega)) ?_
    rintro ⟨b0, o0, rfl⟩
    refine wp_skip' ?_
    refine Then_normal ?_
    refine wp_seq' ?_
    refine wp_block' ?_
    refine wp_seq' ?_
    refine wp_region' ?_
    refine ops_ro' rfl (ro_move rfl) rfl ?_
    refine ops_ro' rfl (ro_assign rfl) rfl ?_
    refine ops_nil ?_
    refine Then_normal ?_
    refine wp_seq' ?_
    refine wp_region' ?_
    refine ops_ro' rfl (ro_move rfl) rfl ?_
    refine ops_ro' rfl (ro_move rfl) rfl ?_
    refine ops_ro' rfl (ro_move rfl) rfl ?_
    refine ops_ro' rfl (ro_indexSlice sl24 rfl rfl rfl (by omega)) rfl ?_
    refine ops_ro' rfl (ro_load sc9 rfl (Rd.pick 0 rfl (Rd.elem (j := 0) (vw_rdn hV) Tx.len (List.getElem?_eq_getElem hi) rfl))) rfl ?_
    refine ops_ro' rfl (ro_eqlS rfl rfl rfl) rfl ?_
    refine ops_nil ?_
    refine Then_normal ?_
    refine wp_cond' rfl (fun hc16 => ?_) (fun hc16 => ?_)
    · replace hc16 := of_decide_eq_true hc16
      refine wp_seq' ?_
      refine wp_region' ?_
      refine ops_ro' rfl (ro_move rfl) rfl ?_
      refine ops_ro' rfl (ro_assign rfl) rfl ?_
      refine ops_nil ?_
      refine Then_normal ?_
      refine wp_ret' ?_
      refine InBlock_ret ?_
      refine Then_ret ?_
      refine Then_ret ?_
      refine InBlock_ret ?_
      refine Then_ret ?_
      refine' doneS_ret (res1 rfl rfl) ?_ ?_
      rotate_left 1
      exact ⟨_, ⟨(i : Nat), rfl, .inl ⟨by omega, by rw [hc16]; exact List.getElem_mem hi⟩, rfl⟩, rfl⟩
      exact SubH.refl _
    · replace hc16 := of_decide_eq_false hc16
      refine wp_skip' ?_
      refine InBlock_normal ?_
      refine Then_normal ?_
      refine wp_region' ?_
      refine ops_ro' rfl (ro_add rfl rfl (wrap_inc (by omega))) rfl ?_
      refine ops_ro' rfl (ro_move rfl) rfl ?_
      refine ops_nil ?_
      refine Then_normal ?_
      refine back (m - 1) (by omega) (kept ⟨i + 1, ⟨by omega, by rw [List.take_succ_eq_append_getElem hi, List.mem_append]; rintro (h | h); exact ht h; exact hc16 (List.mem_singleton.1 h)⟩, rfl, rfl⟩ ?_ ?_ ?_)
      · exact (by repeat (first | exact Has.nil _ | refine Has.cons rfl ?_))
      · exact (by repeat (first | exact Has.nil _ | refine Has.cons rfl ?_))
      · exact SubH.refl _
  · replace hc9 := of_decide_eq_false hc9
    refine wp_exit' ?_
    refine Then_exit ?_
    refine Then_exit ?_
    refine InBlock_here ?_
    refine Then_normal ?_
    refine wp_seq' ?_
    refine wp_region' ?_
    refine ops_ro' rfl (ro_assign rfl) rfl ?_
    refine ops_nil ?_
    refine Then_normal ?_
    refine wp_ret' ?_
    refine' doneS_ret (res1 rfl rfl) ?_ ?_
    rotate_left 1
    exact ⟨_, ⟨-1, rfl, .inr ⟨by omega, by rw [List.take_of_length_le (by omega)] at ht; exact ht⟩, rfl⟩, rfl⟩
    exact SubH.refl _
theorem scont_spec (V : HProp) (q : Option Addr) (cq : Nat) (l : List (List UInt8)) (hV : Vw V (.slice q l.length cq) l.length (txs l)) (hl : l.length ≤ 140737488355328) (x : List UInt8) : Tri Tryd.prog 56 [.slice q l.length cq, .string (str x)] [V] (fun v H' => ∃ K, (v = .bool (decide (x ∈ l)) ∧ K = []) ∧ H' = K ++ [V]) := by
  refine tri_of_wpS Tryd.func56 rfl Tryd.ntmps56 (by simp) ?_
  refine wp_seq' ?_
  refine wp_region' ?_
  refine ops_ro' rfl (ro_assign rfl) rfl ?_
  refine ops_nil ?_
  refine Then_normal ?_
  refine wp_seq' ?_
  refine wp_region' ?_
  refine ops_ro' rfl (ro_move rfl) rfl ?_
  refine ops_ro' rfl (ro_move rfl) rfl ?_
  refine ops_eff' rfl (eff_call Tryd.call77 rfl rfl (by repeat (first | exact Split.nil _ | apply Split.cons 0 rfl | apply Split.cons 1 rfl | apply Split.cons 2 rfl | apply Split.cons 3 rfl | apply Split.cons 4 rfl | apply Split.cons 5 rfl | apply Split.cons 6 rfl | apply Split.cons 7 rfl | apply Split.cons 8 rfl | apply Split.cons 9 rfl | apply Split.cons 10 rfl | apply Split.cons 11 rfl)) (sidx_spec V q cq l hV hl x)) rfl ?_
  rintro _ H' ⟨_, ⟨_, ⟨k, rfl, hk, rfl⟩, rfl⟩, hH⟩
  simp only [List.cons_append, List.nil_append, List.eraseIdx_cons_zero, List.eraseIdx_cons_succ, List.set_cons_zero, List.set_cons_succ] at hH
  subst hH
  refine ops_ro' rfl (ro_geq rfl rfl (c := decide (x ∈ l)) (by rcases hk with ⟨h1, h2⟩ | ⟨h1, h2⟩ <;> simp [h2] <;> omega)) rfl ?_
  refine ops_ro' rfl (ro_assign rfl) rfl ?_
  refine ops_nil ?_
  refine Then_normal ?_
  refine wp_ret' ?_
  refine' doneS_ret (res1 rfl rfl) ?_ ?_
  rotate_left 1
  exact ⟨_, ⟨rfl, rfl⟩, rfl⟩
  exact SubH.refl _


/-- what is agreed on -/
def chO (c s : List (List UInt8)) : List UInt8 × Int := match c.find? (fun x => decide (x ∈ s)) with | some x => (x, 0) | none => ([], 22)
theorem chO_hit {c s : List (List UInt8)} {i : Nat} (hi : i < c.length) (h : ∀ y ∈ c.take i, y ∉ s) (hx : c[i] ∈ s) : chO c s = (c[i], 0) := by
  have e : c = c.take i ++ c[i] :: c.drop (i + 1) := by rw [← List.drop_eq_getElem_cons hi, List.take_append_drop]
  unfold chO
  have h1 : c.find? (fun x => decide (x ∈ s)) = some c[i] := by
    conv => lhs; rw [e]
    rw [List.find?_append, List.find?_eq_none.2 (fun y hy => by simpa using h y hy), Option.none_or, List.find?_cons_of_pos (by simpa using hx)]
  rw [h1]
theorem chO_no {c s : List (List UInt8)} (h : ∀ y ∈ c, y ∉ s) : chO c s = ([], 22) := by
  unfold chO
  rw [List.find?_eq_none.2 (fun y hy => by simpa using h y hy)]
theorem ngChoose_spec (V : HProp) (p : Option Addr) (cp : Nat) (c : List (List UInt8)) (hC : Vw V (.slice p c.length cp) c.length (txs c)) (hc : c.length ≤ 140737488355328) (q : Option Addr) (cq : Nat) (l : List (List UInt8)) (hV : Vw V (.slice q l.length cq) l.length (txs l)) (hl : l.length ≤ 140737488355328) : Tri Tryd.prog 31 [.slice p c.length cp, .slice q l.length cq] [V] (fun v H' => ∃ K, (v = .tuple #[.string (str (chO c l).1), .int .i64 (chO c l).2] ∧ K = []) ∧ H' = K ++ [V]) := by
  refine tri_of_wpS Tryd.func31 rfl Tryd.ntmps31 (by simp) ?_
  refine wp_seq' ?_
  refine wp_region' ?_
  refine ops_ro' rfl (ro_assign rfl) rfl ?_
  refine ops_ro' rfl (ro_assign rfl) rfl ?_
  refine ops_nil ?_
  refine Then_normal ?_
  refine wp_seq' ?_
  refine wp_seq' ?_
  refine wp_region' ?_
  refine ops_ro' rfl (ro_move rfl) rfl ?_
  refine ops_ro' rfl (ro_sliceLen Tryd.underlying24 rfl) rfl ?_
  refine ops_ro' rfl (ro_move rfl) rfl ?_
  refine ops_nil ?_
  refine Then_normal ?_
  refine wp_block' ?_
  refine wp_loopK 2 (fun m Δ LL => ∃ (i : Nat), (i + m = c.length ∧ ∀ y ∈ c.take i, y ∉ l) ∧ Δ = [(10, .int .i64 (i : Nat))] ∧ LL = [V]) (m := c.length) (Has.cons (k := 1) rfl (Has.cons (k := 8) rfl (Has.cons (k := 9) rfl (Has.nil _)))) (kept ⟨0, ⟨by omega, by simp⟩, rfl, rfl⟩ (by repeat (first | exact Has.nil _ | refine Has.cons rfl ?_)) (by repeat (first | exact Has.nil _ | refine Has.cons rfl ?_)) (by repeat (first | exact SubH.nil _ | refine SubH.cons 0 rfl ?_ | refine SubH.cons 1 rfl ?_ | refine SubH.cons 2 rfl ?_ | refine SubH.cons 3 rfl ?_ | refine SubH.cons 4 rfl ?_ | refine SubH.cons 5 rfl ?_ | refine SubH.cons 6 rfl ?_ | refine SubH.cons 7 rfl ?_ | refine SubH.cons 8 rfl ?_ | refine SubH.cons 9 rfl ?_ | refine SubH.cons 10 rfl ?_ | refine SubH.cons 11 rfl ?_ | refine SubH.cons 12 rfl ?_ | refine SubH.cons 13 rfl ?_ | refine SubH.rown ?_))) ?_
  rintro m Δ LL ⟨i, ⟨hm, ht⟩, rfl, rfl⟩
  simp only [List.cons_append, List.nil_append]
  refine wp_seq' ?_
  refine wp_region' ?_
  refine ops_ro' rfl (ro_lss rfl rfl rfl) rfl ?_
  refine ops_nil ?_
  refine Then_normal ?_
  refine wp_seq' ?_
  refine wp_cond' rfl (fun hc11 => ?_) (fun hc11 => ?_)
  · replace hc11 := of_decide_eq_true hc11
    have hi : i < c.length := by omega
    refine wp_know (fun w F s => vw_ptr (Vw.pick (H := [V]) 0 rfl hC) s (by omega)) ?_
    rintro ⟨b0, o0, rfl⟩
    refine wp_skip' ?_
    refine Then_normal ?_
    refine wp_seq' ?_
    refine wp_block' ?_
    refine wp_seq' ?_
    refine wp_region' ?_
    refine ops_ro' rfl (ro_indexSlice sl24 rfl rfl rfl (by omega)) rfl ?_
    refine ops_ro' rfl (ro_load sc9 rfl (Rd.pick 0 rfl (Rd.elem (j := 0) (vw_rdn hC) Tx.len (List.getElem?_eq_getElem hi) rfl))) rfl ?_
    refine ops_ro' rfl (ro_assign rfl) rfl ?_
    refine ops_nil ?_
    refine Then_normal ?_
    refine wp_seq' ?_
    refine wp_region' ?_
    refine ops_ro' rfl (ro_move rfl) rfl ?_
    refine ops_ro' rfl (ro_move rfl) rfl ?_
    refine ops_eff' rfl (eff_call Tryd.call56 rfl rfl (by repeat (first | exact Split.nil _ | apply Split.cons 0 rfl | apply Split.cons 1 rfl | apply Split.cons 2 rfl | apply Split.cons 3 rfl | apply Split.cons 4 rfl | apply Split.cons 5 rfl | apply Split.cons 6 rfl | apply Split.cons 7 rfl | apply Split.cons 8 rfl | apply Split.cons 9 rfl | apply Split.cons 10 rfl | apply Split.cons 11 rfl)) (scont_spec V q cq l hV hl c[i])) rfl ?_
    rintro _ H' ⟨_, ⟨_, ⟨rfl, rfl⟩, rfl⟩, hH⟩
    simp only [List.cons_append, List.nil_append, List.eraseIdx_cons_zero, List.eraseIdx_cons_succ, List.set_cons_zero, List.set_cons_succ] at hH
    subst hH
    refine ops_nil ?_
    refine Then_normal ?_
    refine wp_cond' rfl (fun hc16 => ?_) (fun hc16 => ?_)
    · replace hc16 := of_decide_eq_true hc16
      refine wp_seq' ?_
      refine wp_region' ?_
      refine ops_ro' rfl (ro_move rfl) rfl ?_
      refine ops_ro' rfl (ro_assign rfl) rfl ?_
      refine ops_ro' rfl (ro_assign rfl) rfl ?_
      refine ops_nil ?_
      refine Then_normal ?_
      refine wp_ret' ?_
      refine InBlock_ret ?_
      refine Then_ret ?_
      refine Then_ret ?_
      refine InBlock_ret ?_
      refine Then_ret ?_
      refine' doneS_ret (res2 rfl rfl rfl) ?_ ?_
      rotate_left 1
      exact ⟨_, ⟨by rw [chO_hit hi ht (by simpa using hc16)], rfl⟩, rfl⟩
      exact SubH.refl _
    · replace hc16 := of_decide_eq_false hc16
      refine wp_skip' ?_
      refine InBlock_normal ?_
      refine Then_normal ?_
      refine wp_region' ?_
      refine ops_ro' rfl (ro_add rfl rfl (wrap_inc (by omega))) rfl ?_
      refine ops_ro' rfl (ro_move rfl) rfl ?_
      refine ops_nil ?_
      refine Then_normal ?_
      refine back (m - 1) (by omega) (kept ⟨i + 1, ⟨by omega, by rw [List.take_succ_eq_append_getElem hi]; intro y hy; rcases List.mem_append.1 hy with h | h; exact ht y h; rw [List.mem_singleton.1 h]; simpa using hc16⟩, rfl, rfl⟩ ?_ ?_ ?_)
      · exact (by repeat (first | exact Has.nil _ | refine Has.cons rfl ?_))
      · exact (by repeat (first | exact Has.nil _ | refine Has.cons rfl ?_))
      · exact SubH.refl _
  · replace hc11 := of_decide_eq_false hc11
    refine wp_exit' ?_
    refine Then_exit ?_
    refine Then_exit ?_
    refine InBlock_here ?_
    refine Then_normal ?_
    refine wp_seq' ?_
    refine wp_region' ?_
    refine ops_ro' rfl (ro_assign rfl) rfl ?_
    refine ops_ro' rfl (ro_assign rfl) rfl ?_
    refine ops_nil ?_
    refine Then_normal ?_
    refine wp_ret' ?_
    refine' doneS_ret (res2 rfl rfl rfl) ?_ ?_
    rotate_left 1
    exact ⟨_, ⟨by rw [chO_no (by rw [List.take_of_length_le (by omega)] at ht; exact ht)]; rfl, rfl⟩, rfl⟩
    exact SubH.refl _


def veB (b : UInt8) : Bool := decide (32 ≤ b.toNat) && decide (b.toNat ≤ 126)
def vpre : List UInt8 := [83, 83, 72, 45, 50, 46, 48, 45]
/-- is it a version? -/
def veOk (s : List UInt8) : Bool := s.all veB && Lib.hasPrefix s [83, 83, 72, 45, 50, 46, 48, 45] && decide (8 < s.length) && decide (s.length ≤ 253)
theorem veOk_bad {s : List UInt8} {i : Nat} (hi : i < s.length) (h : s[i].toNat < 32 ∨ 126 < s[i].toNat) : veOk s = false := by
  cases hh : veOk s with
  | false => rfl
  | true =>
    unfold veOk at hh
    simp only [Bool.and_eq_true] at hh
    have h1 := List.all_eq_true.1 hh.1.1.1 s[i] (List.getElem_mem hi)
    simp only [veB, Bool.and_eq_true, decide_eq_true_eq] at h1
    omega
theorem veOk_no {s : List UInt8} (h : ¬ (Lib.hasPrefix s [83, 83, 72, 45, 50, 46, 48, 45] = true ∧ (8 : Int) < ((s.length : Nat) : Int) ∧ True)) : veOk s = false := by
  cases hh : veOk s with
  | false => rfl
  | true =>
    unfold veOk at hh
    simp only [Bool.and_eq_true, decide_eq_true_eq] at hh
    exact absurd ⟨hh.1.1.2, by omega, trivial⟩ h
theorem veOk_fin {s : List UInt8} (h : s.all veB = true) (h1 : Lib.hasPrefix s [83, 83, 72, 45, 50, 46, 48, 45] = true) (h2 : (8 : Int) < ((s.length : Nat) : Int)) : veOk s = decide (((s.length : Nat) : Int) ≤ 253) := by
  unfold veOk
  rw [h, h1, decide_eq_true (show 8 < s.length by omega), Bool.true_and, Bool.true_and, Bool.true_and]
  exact decide_eq_decide.2 (by omega)
theorem hpre_spec (s p : List UInt8) : Tri Tryd.prog 61 [.string (str s), .string (str p)] [] (fun v H' => v = .bool (Lib.hasPrefix s p) ∧ H' = []) := fun w F hw =>
  (Tryd.strings_HasPrefix (str s) (str p) w).mono fun e w' ⟨he, hw'⟩ => ⟨_, _, he, ⟨rfl, rfl⟩, hw' ▸ hw⟩
theorem ngFine_spec (s : List UInt8) (hs : s.length ≤ 9223372036854775806) : Tri Tryd.prog 37 [.string (str s)] [] (fun v H' => v = .bool (veOk s) ∧ H' = []) := by
  refine tri_of_wpS Tryd.func37 rfl Tryd.ntmps37 (by simp) ?_
  refine wp_seq' ?_
  refine wp_region' ?_
  refine ops_ro' rfl (ro_assign rfl) rfl ?_
  refine ops_nil ?_
  refine Then_normal ?_
  refine wp_seq' ?_
  refine wp_seq' ?_
  refine wp_region' ?_
  refine ops_ro' rfl (ro_move rfl) rfl ?_
  refine ops_ro' rfl (ro_lenS (t' := 0) Tryd.underlying9 rfl) rfl ?_
  refine ops_ro' rfl (ro_move rfl) rfl ?_
  refine ops_nil ?_
  refine Then_normal ?_
  refine wp_block' ?_
  refine wp_loopK 2 (fun m Δ LL => ∃ (i : Nat), (i + m = s.length ∧ (s.take i).all veB = true) ∧ Δ = [(6, .int .i64 (i : Nat))] ∧ LL = []) (m := s.length) (Has.cons (k := 0) rfl (Has.cons (k := 5) rfl (Has.nil _))) (kept ⟨0, ⟨by omega, by simp⟩, rfl, rfl⟩ (by repeat (first | exact Has.nil _ | refine Has.cons rfl ?_)) (by repeat (first | exact Has.nil _ | refine Has.cons rfl ?_)) (by repeat (first | exact SubH.nil _ | refine SubH.cons 0 rfl ?_ | refine SubH.cons 1 rfl ?_ | refine SubH.cons 2 rfl ?_ | refine SubH.cons 3 rfl ?_ | refine SubH.cons 4 rfl ?_ | refine SubH.cons 5 rfl ?_ | refine SubH.cons 6 rfl ?_ | refine SubH.cons 7 rfl ?_ | refine SubH.cons 8 rfl ?_ | refine SubH.cons 9 rfl ?_ | refine SubH.cons 10 rfl ?_ | refine SubH.cons 11 rfl ?_ | refine SubH.cons 12 rfl ?_ | refine SubH.cons 13 rfl ?_ | refine SubH.rown ?_))) ?_
  rintro m Δ LL ⟨i, ⟨hm, ht⟩, rfl, rfl⟩
  simp only [List.cons_append, List.nil_append]
  refine wp_seq' ?_
  refine wp_region' ?_
  refine ops_ro' rfl (ro_lss rfl rfl rfl) rfl ?_
  refine ops_nil ?_
  refine Then_normal ?_
  refine wp_seq' ?_
  refine wp_cond' rfl (fun hc7 => ?_) (fun hc7 => ?_)
  · replace hc7 := of_decide_eq_true hc7
    have hi : i < s.length := by omega
    have hb := UInt8.toNat_lt s[i]
    refine wp_skip' ?_
    refine Then_normal ?_
    refine wp_seq' ?_
    refine wp_block' ?_
    refine wp_seq' ?_
    refine wp_region' ?_
    refine ops_ro' rfl (ro_move rfl) rfl ?_
    refine ops_ro' rfl (ro_assign rfl) rfl ?_
    refine ops_nil ?_
    refine Then_normal ?_
    refine wp_seq' ?_
    refine wp_region' ?_
    refine ops_ro' rfl (ro_move rfl) rfl ?_
    refine ops_ro' rfl (ro_move rfl) rfl ?_
    refine ops_ro' rfl (ro_indexS Tryd.underlying9 rfl rfl rfl (by omega)) rfl ?_
    refine ops_ro' rfl (ro_lss rfl rfl rfl) rfl ?_
    refine ops_split rfl rfl rfl (fun hg13 => ?_) (fun hg13 => ?_)
    · replace hg13 := of_decide_eq_true hg13
      refine ops_skip' rfl rfl ?_
      refine ops_skip' rfl rfl ?_
      refine ops_skip' rfl rfl ?_
      refine ops_skip' rfl rfl ?_
      refine ops_ro' rfl (ro_pick rfl rfl) rfl ?_
      refine ops_nil ?_
      refine Then_normal ?_
      refine wp_condT rfl ?_
      refine wp_seq' ?_
      refine wp_region' ?_
      refine ops_ro' rfl (ro_assign rfl) rfl ?_
      refine ops_nil ?_
      refine Then_normal ?_
      refine wp_ret' ?_
      refine InBlock_ret ?_
      refine Then_ret ?_
      refine Then_ret ?_
      refine InBlock_ret ?_
      refine Then_ret ?_
      refine' doneS_ret (res1 rfl rfl) ?_ ?_
      rotate_left 1
      exact ⟨by rw [veOk_bad hi (by omega)], rfl⟩
      exact SubH.refl _
    · replace hg13 := of_decide_eq_false hg13
      refine ops_ro' rfl (ro_move rfl) rfl ?_
      refine ops_ro' rfl (ro_move rfl) rfl ?_
      refine ops_ro' rfl (ro_indexS Tryd.underlying9 rfl rfl rfl (by omega)) rfl ?_
      refine ops_ro' rfl (ro_gtr rfl rfl rfl) rfl ?_
      refine ops_ro' rfl (ro_pick rfl rfl) rfl ?_
      refine ops_nil ?_
      refine Then_normal ?_
      refine wp_cond' rfl (fun hc18 => ?_) (fun hc18 => ?_)
      · replace hc18 := of_decide_eq_true hc18
        refine wp_seq' ?_
        refine wp_region' ?_
        refine ops_ro' rfl (ro_assign rfl) rfl ?_
        refine ops_nil ?_
        refine Then_normal ?_
        refine wp_ret' ?_
        refine InBlock_ret ?_
        refine Then_ret ?_
        refine Then_ret ?_
        refine InBlock_ret ?_
        refine Then_ret ?_
        refine' doneS_ret (res1 rfl rfl) ?_ ?_
        rotate_left 1
        exact ⟨by rw [veOk_bad hi (by omega)], rfl⟩
        exact SubH.refl _
      · replace hc18 := of_decide_eq_false hc18
        refine wp_skip' ?_
        refine InBlock_normal ?_
        refine Then_normal ?_
        refine wp_region' ?_
        refine ops_ro' rfl (ro_add rfl rfl (wrap_inc (by omega))) rfl ?_
        refine ops_ro' rfl (ro_move rfl) rfl ?_
        refine ops_nil ?_
        refine Then_normal ?_
        refine back (m - 1) (by omega) (kept ⟨i + 1, ⟨by omega, by rw [List.take_succ_eq_append_getElem hi, List.all_append, ht]; simp [veB]; omega⟩, rfl, rfl⟩ ?_ ?_ ?_)
        · exact (by repeat (first | exact Has.nil _ | refine Has.cons rfl ?_))
        · exact (by repeat (first | exact Has.nil _ | refine Has.cons rfl ?_))
        · exact SubH.refl _
  · replace hc7 := of_decide_eq_false hc7
    rw [List.take_of_length_le (by omega)] at ht
    refine wp_exit' ?_
    refine Then_exit ?_
    refine Then_exit ?_
    refine InBlock_here ?_
    refine Then_normal ?_
    refine wp_seq' ?_
    refine wp_region' ?_
    refine ops_ro' rfl (ro_move rfl) rfl ?_
    refine ops_eff' rfl (eff_call Tryd.call61 rfl rfl (by repeat (first | exact Split.nil _ | apply Split.cons 0 rfl | apply Split.cons 1 rfl | apply Split.cons 2 rfl | apply Split.cons 3 rfl | apply Split.cons 4 rfl | apply Split.cons 5 rfl | apply Split.cons 6 rfl | apply Split.cons 7 rfl | apply Split.cons 8 rfl | apply Split.cons 9 rfl | apply Split.cons 10 rfl | apply Split.cons 11 rfl)) (hpre_spec s [83, 83, 72, 45, 50, 46, 48, 45])) rfl ?_
    rintro _ H' ⟨_, ⟨rfl, rfl⟩, hH⟩
    simp only [List.cons_append, List.nil_append, List.eraseIdx_cons_zero, List.eraseIdx_cons_succ, List.set_cons_zero, List.set_cons_succ] at hH
    subst hH
    refine ops_split rfl rfl rfl (fun hg22 => ?_) (fun hg22 => ?_)
    · skip
      refine ops_ro' rfl (ro_move rfl) rfl ?_
      refine ops_ro' rfl (ro_lenS (t' := 0) Tryd.underlying9 rfl) rfl ?_
      refine ops_ro' rfl (ro_gtr rfl rfl rfl) rfl ?_
      refine ops_ro' rfl (ro_pick rfl rfl) rfl ?_
      refine ops_split rfl rfl rfl (fun hg27 => ?_) (fun hg27 => ?_)
      · replace hg27 := of_decide_eq_true hg27
        refine ops_ro' rfl (ro_move rfl) rfl ?_
        refine ops_ro' rfl (ro_lenS (t' := 0) Tryd.underlying9 rfl) rfl ?_
        refine ops_ro' rfl (ro_leq rfl rfl rfl) rfl ?_
        refine ops_ro' rfl (ro_pick rfl rfl) rfl ?_
        refine ops_ro' rfl (ro_assign rfl) rfl ?_
        refine ops_nil ?_
        refine Then_normal ?_
        refine wp_ret' ?_
        refine' doneS_ret (res1 rfl rfl) ?_ ?_
        rotate_left 1
        exact ⟨by rw [veOk_fin ht hg22 hg27], rfl⟩
        exact SubH.refl _
      · replace hg27 := of_decide_eq_false hg27
        refine ops_skip' rfl rfl ?_
        refine ops_skip' rfl rfl ?_
        refine ops_skip' rfl rfl ?_
        refine ops_ro' rfl (ro_pick rfl rfl) rfl ?_
        refine ops_ro' rfl (ro_assign rfl) rfl ?_
        refine ops_nil ?_
        refine Then_normal ?_
        refine wp_ret' ?_
        refine' doneS_ret (res1 rfl rfl) ?_ ?_
        rotate_left 1
        exact ⟨by rw [veOk_no (fun h => hg27 h.2.1)], rfl⟩
        exact SubH.refl _
    · skip
      refine ops_skip' rfl rfl ?_
      refine ops_skip' rfl rfl ?_
      refine ops_skip' rfl rfl ?_
      refine ops_ro' rfl (ro_pick rfl rfl) rfl ?_
      refine ops_ro' rfl (ro_move (v := .bool false) rfl) rfl ?_
      refine ops_skip' rfl rfl ?_
      refine ops_skip' rfl rfl ?_
      refine ops_skip' rfl rfl ?_
      refine ops_ro' rfl (ro_pick rfl rfl) rfl ?_
      refine ops_ro' rfl (ro_assign rfl) rfl ?_
      refine ops_nil ?_
      refine Then_normal ?_
      refine wp_ret' ?_
      refine' doneS_ret (res1 rfl rfl) ?_ ?_
      rotate_left 1
      exact ⟨by rw [veOk_no (fun h => by rw [h.1] at hg22; cases hg22)], rfl⟩
      exact SubH.refl _
theorem bytesOf_nat (l : List UInt8) : Lib.bytesOf (l.map fun b => (b.toNat : Int)) = l := by
  unfold Lib.bytesOf; rw [List.map_map]
  conv => rhs; rw [← List.map_id l]
  exact List.map_congr_left fun x _ => by simp
theorem sat_drew {w : World} {q : Nat} {A : HProp} (s : sat w A) : sat (w.drewN q) A := sat_heap (w := w) rfl rfl s
theorem nat_getD (l : List UInt8) {i : Nat} (h : i < l.length) : Value.int .u8 ((l.map fun b => (b.toNat : Int)).getD i 0) = byteV l[i] := by
  rw [List.getD_eq_getElem?_getD, List.getElem?_map, List.getElem?_eq_getElem h]; rfl
theorem bidx_spec (V : HProp) (hM : Ml V) (p q : Option Addr) (c d : Nat) (l s : List UInt8) (hV : Vw V (.slice p l.length c) l.length (cel l)) (hc : l.length ≤ c) (hl : l.length ≤ 4000000000) (hS : Vw V (.slice q s.length d) s.length (cel s)) (h2 : 2 ≤ s.length) (hs : s.length ≤ 4000000000) :
    Tri Tryd.prog 38 [.slice p l.length c, .slice q s.length d] [V] (fun v H' => ∃ K, (v = .int .i64 (Lib.index l s) ∧ K = []) ∧ H' = K ++ [V]) := fun w F hw => by
  have hw' : sat w (star V F) := by rwa [St_cons, St_nil, star_emp] at hw
  obtain ⟨m, hm⟩ := hM w F hw'
  rcases hS w F hw' with ⟨_, _, h0, _⟩ | ⟨b2, o2, c2, h0, hcell2⟩
  · omega
  · injection h0 with h0 _ h3; subst h0; subst h3
    have go : ∀ a : Addr, (∀ i, i < l.length → w.cell? (a.add i) = some (.int .u8 ((l.map fun b => (b.toNat : Int)).getD i 0))) → Calls Tryd.prog 38 #[.slice (some a) l.length c, .slice (some ⟨b2, o2, none⟩) s.length d] w fun e w' => ∃ v H', e = .returned v ∧ (∃ K, (v = .int .i64 (Lib.index l s) ∧ K = []) ∧ H' = K ++ [V]) ∧ sat w' (star (St H') F) := fun a ha => by
      refine (Tryd.bytes_Index_at a ⟨b2, o2, none⟩ l.length c s.length d (l.map fun b => (b.toNat : Int)) (s.map fun b => (b.toNat : Int)) m w (by simp) (by simp) (fun x hx => ?_) (fun x hx => ?_) ha (fun i hi => ?_) hc (by omega) (by omega) hm).mono ?_
      · obtain ⟨b, _, rfl⟩ := List.mem_map.1 hx
        have := UInt8.toNat_lt b; omega
      · obtain ⟨b, _, rfl⟩ := List.mem_map.1 hx
        have := UInt8.toNat_lt b; omega
      · rw [addr_add, nat_getD s hi]; exact hcell2 i _ (cel_get hi)
      · rintro e w' ⟨rfl, q, rfl⟩
        rw [bytesOf_nat, bytesOf_nat]
        exact ⟨_, _, rfl, ⟨_, ⟨rfl, rfl⟩, rfl⟩, sat_drew hw⟩
    rcases hV w F hw' with ⟨a, h4, h5, h6⟩ | ⟨b, o, cap, h4, hcell⟩
    · have hl0 : l = [] := List.eq_nil_of_length_eq_zero h5
      subst hl0
      injection h4 with h4 _ h7
      cases p with
      | some a1 => exact go a1 (fun i hi => absurd hi (by simp))
      | none =>
        subst h7
        refine (Tryd.bytes_Index_nil (some ⟨b2, o2, none⟩) s.length d w (by omega) (fun h => by omega)).mono ?_
        rintro e w' ⟨rfl, rfl⟩
        have e1 : Lib.index [] s = -1 := by
          unfold Lib.index
          cases s with
          | nil => simp at h2
          | cons x r => rfl
        rw [if_neg (by omega), ← e1]
        exact ⟨_, _, rfl, ⟨_, ⟨rfl, rfl⟩, rfl⟩, hw⟩
    · injection h4 with h4 _ h7; subst h4
      exact go _ fun i hi => by rw [addr_add, nat_getD l hi]; exact hcell i _ (cel_get hi)

end Go.Proofs.YtigaolglnnjnmaaDoor
