/-
  Parts: shortened, and written by both.
-/
import Derived.Test.YtbiohhfibkolgaaFew
namespace Go.Proofs.Ytbiohhfibkolgaa
open Go.Sx
set_option linter.unusedVariables false
set_option linter.unusedSimpArgs false
set_option maxRecDepth 100000

theorem short_run (V : HProp) (q : Option Addr) (cq : Nat) (xs : List (List UInt8)) (hV : xs.length ≠ 0 → Vw V (.slice q xs.length cq) xs.length (xs.map fun x => Value.string (str x))) (k : Int) (n : Nat) (s : ByteArray) :
    Tri Try.prog 31 [.agg [Value.int .i64 k, .int .u64 (n : Nat), .string s, .slice q xs.length cq].toArray] [V] (fun v H' => ∃ A sl, Rows' sl (few xs 8 66) A ∧ v = .agg [Value.int .i64 k, .int .u64 (n : Nat), .string (hd s 200), sl].toArray ∧ ∃ R, H' = A :: R ∧ V ∈ R) := by
  refine tri_of_wp Try.func31 rfl Try.ntmps31 (by simp) ?_
  refine wp_seq' ?_
  refine wp_region' ?_
  refine ops_eff' rfl (eff_box rfl) rfl ?_
  rintro _ _ ⟨b1, rfl, rfl⟩
  refine ops_eff' rfl (eff_alloc z62) rfl ?_
  rintro _ _ ⟨b2, rfl, rfl⟩
  refine ops_nil ?_
  repeat (first | refine InBlock_normal ?_ | refine NoGoto_normal ?_ | refine Jump_normal ?_)
  refine Then_normal ?_
  refine wp_seq' ?_
  refine wp_region' ?_
  refine ops_ro' rfl (ro_fieldAddr fa62_2 rfl) rfl ?_
  refine ops_ro' rfl (ro_load sc9 rfl (by first | exact Rd.pick 0 rfl (by first | exact Rd.own rfl | exact Rd.row rfl) | exact Rd.pick 1 rfl (by first | exact Rd.own rfl | exact Rd.row rfl) | exact Rd.pick 2 rfl (by first | exact Rd.own rfl | exact Rd.row rfl) | exact Rd.pick 3 rfl (by first | exact Rd.own rfl | exact Rd.row rfl) | exact Rd.pick 4 rfl (by first | exact Rd.own rfl | exact Rd.row rfl) | exact Rd.pick 5 rfl (by first | exact Rd.own rfl | exact Rd.row rfl) | exact Rd.pick 6 rfl (by first | exact Rd.own rfl | exact Rd.row rfl) | exact Rd.pick 7 rfl (by first | exact Rd.own rfl | exact Rd.row rfl))) rfl ?_
  refine ops_eff' rfl (eff_call Try.call21 rfl rfl (Split.nil _) (head_spec s 200)) rfl ?_
  rintro _ H' ⟨_, ⟨rfl, rfl⟩, hH⟩
  simp only [List.cons_append, List.nil_append, List.eraseIdx_cons_zero, List.eraseIdx_cons_succ, List.set_cons_zero, List.set_cons_succ] at hH
  subst hH
  refine ops_ro' rfl (ro_fieldAddr fa62_2 rfl) rfl ?_
  refine ops_eff0 rfl ((by first | exact eff_store 0 sc9 rfl rfl rfl rfl (Nat.le_of_ble_eq_true rfl) (warm_zero _) | exact eff_store 1 sc9 rfl rfl rfl rfl (Nat.le_of_ble_eq_true rfl) (warm_zero _) | exact eff_store 2 sc9 rfl rfl rfl rfl (Nat.le_of_ble_eq_true rfl) (warm_zero _) | exact eff_store 3 sc9 rfl rfl rfl rfl (Nat.le_of_ble_eq_true rfl) (warm_zero _) | exact eff_store 4 sc9 rfl rfl rfl rfl (Nat.le_of_ble_eq_true rfl) (warm_zero _) | exact eff_store 5 sc9 rfl rfl rfl rfl (Nat.le_of_ble_eq_true rfl) (warm_zero _) | exact eff_store 6 sc9 rfl rfl rfl rfl (Nat.le_of_ble_eq_true rfl) (warm_zero _) | exact eff_store 7 sc9 rfl rfl rfl rfl (Nat.le_of_ble_eq_true rfl) (warm_zero _))) rfl ?_
  rintro _ _ rfl
  refine ops_nil ?_
  repeat (first | refine InBlock_normal ?_ | refine NoGoto_normal ?_ | refine Jump_normal ?_)
  refine Then_normal ?_
  refine wp_seq' ?_
  refine wp_region' ?_
  refine ops_ro' rfl (ro_fieldAddr fa62_3 rfl) rfl ?_
  refine ops_ro' rfl (ro_load sc60 rfl (by first | exact Rd.pick 0 rfl (by first | exact Rd.own rfl | exact Rd.row rfl) | exact Rd.pick 1 rfl (by first | exact Rd.own rfl | exact Rd.row rfl) | exact Rd.pick 2 rfl (by first | exact Rd.own rfl | exact Rd.row rfl) | exact Rd.pick 3 rfl (by first | exact Rd.own rfl | exact Rd.row rfl) | exact Rd.pick 4 rfl (by first | exact Rd.own rfl | exact Rd.row rfl) | exact Rd.pick 5 rfl (by first | exact Rd.own rfl | exact Rd.row rfl) | exact Rd.pick 6 rfl (by first | exact Rd.own rfl | exact Rd.row rfl) | exact Rd.pick 7 rfl (by first | exact Rd.own rfl | exact Rd.row rfl))) rfl ?_
  refine ops_eff' rfl (eff_call Try.call65 rfl rfl (Split.cons 2 rfl (Split.nil _)) (few_spec V q cq xs hV 8 66 (by omega) (by omega))) rfl ?_
  rintro _ H' ⟨_, ⟨_, ⟨p3, c3, rfl, rfl⟩, rfl⟩, hH⟩
  simp only [List.cons_append, List.nil_append, List.eraseIdx_cons_zero, List.eraseIdx_cons_succ, List.set_cons_zero, List.set_cons_succ] at hH
  subst hH
  refine ops_ro' rfl (ro_fieldAddr fa62_3 rfl) rfl ?_
  refine ops_eff0 rfl ((by first | exact eff_store 0 sc60 rfl rfl rfl rfl (Nat.le_of_ble_eq_true rfl) (warm_zero _) | exact eff_store 1 sc60 rfl rfl rfl rfl (Nat.le_of_ble_eq_true rfl) (warm_zero _) | exact eff_store 2 sc60 rfl rfl rfl rfl (Nat.le_of_ble_eq_true rfl) (warm_zero _) | exact eff_store 3 sc60 rfl rfl rfl rfl (Nat.le_of_ble_eq_true rfl) (warm_zero _) | exact eff_store 4 sc60 rfl rfl rfl rfl (Nat.le_of_ble_eq_true rfl) (warm_zero _) | exact eff_store 5 sc60 rfl rfl rfl rfl (Nat.le_of_ble_eq_true rfl) (warm_zero _) | exact eff_store 6 sc60 rfl rfl rfl rfl (Nat.le_of_ble_eq_true rfl) (warm_zero _) | exact eff_store 7 sc60 rfl rfl rfl rfl (Nat.le_of_ble_eq_true rfl) (warm_zero _))) rfl ?_
  rintro _ _ rfl
  refine ops_nil ?_
  repeat (first | refine InBlock_normal ?_ | refine NoGoto_normal ?_ | refine Jump_normal ?_)
  refine Then_normal ?_
  refine wp_seq' ?_
  refine wp_region' ?_
  refine ops_ro' rfl (ro_loadA ag62 rfl (by first | exact RdN.of_pick 0 rfl rdn_all | exact RdN.of_pick 1 rfl rdn_all | exact RdN.of_pick 2 rfl rdn_all | exact RdN.of_pick 3 rfl rdn_all | exact RdN.of_pick 4 rfl rdn_all | exact RdN.of_pick 5 rfl rdn_all | exact RdN.of_pick 6 rfl rdn_all | exact RdN.of_pick 7 rfl rdn_all) rfl) rfl ?_
  refine ops_eff0 rfl ((by first | exact eff_storeA 0 ag62 rfl rfl rfl rfl rfl (Nat.le_of_ble_eq_true rfl) (warm_zero _) | exact eff_storeA 1 ag62 rfl rfl rfl rfl rfl (Nat.le_of_ble_eq_true rfl) (warm_zero _) | exact eff_storeA 2 ag62 rfl rfl rfl rfl rfl (Nat.le_of_ble_eq_true rfl) (warm_zero _) | exact eff_storeA 3 ag62 rfl rfl rfl rfl rfl (Nat.le_of_ble_eq_true rfl) (warm_zero _) | exact eff_storeA 4 ag62 rfl rfl rfl rfl rfl (Nat.le_of_ble_eq_true rfl) (warm_zero _) | exact eff_storeA 5 ag62 rfl rfl rfl rfl rfl (Nat.le_of_ble_eq_true rfl) (warm_zero _) | exact eff_storeA 6 ag62 rfl rfl rfl rfl rfl (Nat.le_of_ble_eq_true rfl) (warm_zero _) | exact eff_storeA 7 ag62 rfl rfl rfl rfl rfl (Nat.le_of_ble_eq_true rfl) (warm_zero _))) rfl ?_
  rintro _ _ rfl
  refine ops_nil ?_
  repeat (first | refine InBlock_normal ?_ | refine NoGoto_normal ?_ | refine Jump_normal ?_)
  refine Then_normal ?_
  refine wp_ret' ?_
  repeat (first | refine Then_ret ?_ | refine InBlock_ret ?_ | refine NoGoto_ret ?_ | refine Jump_ret ?_)
  refine done_ret (resv1 rfl (rv_cellA ag62 rfl (by first | exact RdN.of_pick 0 rfl rdn_all | exact RdN.of_pick 1 rfl rdn_all | exact RdN.of_pick 2 rfl rdn_all | exact RdN.of_pick 3 rfl rdn_all | exact RdN.of_pick 4 rfl rdn_all | exact RdN.of_pick 5 rfl rdn_all | exact RdN.of_pick 6 rfl rdn_all | exact RdN.of_pick 7 rfl rdn_all) rfl)) ?_
  exact ⟨_, _, ⟨p3, c3, rfl, rfl⟩, rfl, _, rfl, by simp⟩


theorem row_cap3 {H : List HProp} (i : Nat) {e : TypeId} {size n c : Nat} {p : Option Addr} {xs : List Value} (hi : H[i]? = some (row e size (.slice p n c) n xs)) {w : World} {F : HProp} (s : sat w (star (St H) F)) : n ≤ c := by
  rcases (row_shape i hi s).2 with ⟨h1, h2, _⟩ | ⟨b, cap, h1, h2, _⟩
  · omega
  · injection h1 with _ _ h3; omega
theorem top_le (l : List UInt8) : (top (bare l)).length ≤ l.length + 1 := by
  have : (bare l).length ≤ l.length := (List.dropWhile_sublist _).length_le
  unfold top; split
  · simp
  · rename_i d r hb; rw [hb] at this; split <;> simp at this ⊢ <;> omega
theorem wraw_at (V : HProp) (q : Option Addr) (n cq : Nat) (x : List UInt8) (hn : x.length = n) (hV : Vw V (.slice q n cq) n (cel x)) (pw : Nat) (p : Option Addr) (c : Nat) (l : List UInt8) (hl : l.length ≤ 35184372088832) (hx : x.length ≤ 35184372088832) :
    Tri Try.prog 64 [.pointer (some ⟨pw, 0, none⟩), .slice q n cq] (wr pw p c l ++ [V]) (fun v H' => ∃ p' c', v = .tuple #[] ∧ H' = wr pw p' c' (l ++ x) ++ [V]) := by
  subst hn; exact wraw_spec V q cq x hV pw p c l hl hx
theorem put_run1 (V1 V2 : HProp) (pw : Nat) (p0 : Option Addr) (c0 : Nat) (p : Option Addr) (c : Nat) (l : List UInt8) (hV1 : Vw V1 (.slice p l.length c) l.length (cel l)) (hl : l.length ≤ 35184372000000) (k : Int) (n : Nat) (hn : n < 18446744073709551616) (s : ByteArray) (hs : s.size ≤ 200)
    (q : Option Addr) (cq : Nat) (xs : List (List UInt8)) (hV2 : Vw V2 (.slice q xs.length cq) xs.length (xs.map fun x => Value.string (str x))) (hcq : xs.length ≤ cq) (hxl : xs.length ≤ 8) (hx : ∀ x ∈ xs, x.length ≤ 35184372088000) (hj : ∀ i, (joined (xs.take i) [44]).length ≤ 700) :
    Tri Try.prog 30 [.pointer (some ⟨pw, 0, none⟩), .slice p l.length c, .agg [Value.int .i64 k, .int .u64 (n : Nat), .string s, .slice q xs.length cq].toArray] (wr pw p0 c0 l ++ [V1, V2]) (fun v H' => ∃ e A p' c' Hi, e.length ≤ 1000 ∧ Rowo v (l ++ e) A ∧ Split H' (wr pw p' c' (l ++ e) ++ [A, V2]) Hi) := by
  have hsz : s.data.toList.length = s.size := Array.length_toList
  refine tri_of_wp Try.func30 rfl Try.ntmps30 (by simp) ?_
  refine wp_seq' ?_
  refine wp_region' ?_
  refine ops_eff' rfl (eff_box rfl) rfl ?_
  rintro _ _ ⟨b5, rfl, rfl⟩
  refine ops_ro' rfl (ro_assign rfl) rfl ?_
  refine ops_nil ?_
  repeat (first | refine InBlock_normal ?_ | refine NoGoto_normal ?_ | refine Jump_normal ?_)
  refine Then_normal ?_
  refine wp_seq' ?_
  refine wp_seq' ?_
  refine wp_region' ?_
  refine ops_ro' rfl (ro_fieldAddr fa62_0 rfl) rfl ?_
  refine ops_ro' rfl (ro_load sc3 rfl (by first | exact Rd.pick 0 rfl (by first | exact Rd.own rfl | exact Rd.row rfl) | exact Rd.pick 1 rfl (by first | exact Rd.own rfl | exact Rd.row rfl) | exact Rd.pick 2 rfl (by first | exact Rd.own rfl | exact Rd.row rfl) | exact Rd.pick 3 rfl (by first | exact Rd.own rfl | exact Rd.row rfl) | exact Rd.pick 4 rfl (by first | exact Rd.own rfl | exact Rd.row rfl) | exact Rd.pick 5 rfl (by first | exact Rd.own rfl | exact Rd.row rfl) | exact Rd.pick 6 rfl (by first | exact Rd.own rfl | exact Rd.row rfl) | exact Rd.pick 7 rfl (by first | exact Rd.own rfl | exact Rd.row rfl))) rfl ?_
  refine ops_nil ?_
  repeat (first | refine InBlock_normal ?_ | refine NoGoto_normal ?_ | refine Jump_normal ?_)
  refine Then_normal ?_
  refine wp_block' ?_
  refine wp_seq' ?_
  refine wp_region' ?_
  refine ops_ro' rfl (ro_eql rfl rfl rfl) rfl ?_
  refine ops_ro' rfl (ro_assign rfl) rfl ?_
  refine ops_nil ?_
  repeat (first | refine InBlock_normal ?_ | refine NoGoto_normal ?_ | refine Jump_normal ?_)
  refine Then_normal ?_
  refine wp_cond' rfl (fun hc0 => ?_) (fun hc0 => ?_)
  · try replace hc0 := of_decide_eq_true hc0
    refine wp_seq' ?_
    refine wp_region' ?_
    refine ops_ro' rfl (ro_move rfl) rfl ?_
    refine ops_ro' rfl (ro_fieldAddr fa62_1 rfl) rfl ?_
    refine ops_ro' rfl (ro_load sc28 rfl (by first | exact Rd.pick 0 rfl (by first | exact Rd.own rfl | exact Rd.row rfl) | exact Rd.pick 1 rfl (by first | exact Rd.own rfl | exact Rd.row rfl) | exact Rd.pick 2 rfl (by first | exact Rd.own rfl | exact Rd.row rfl) | exact Rd.pick 3 rfl (by first | exact Rd.own rfl | exact Rd.row rfl) | exact Rd.pick 4 rfl (by first | exact Rd.own rfl | exact Rd.row rfl) | exact Rd.pick 5 rfl (by first | exact Rd.own rfl | exact Rd.row rfl) | exact Rd.pick 6 rfl (by first | exact Rd.own rfl | exact Rd.row rfl) | exact Rd.pick 7 rfl (by first | exact Rd.own rfl | exact Rd.row rfl))) rfl ?_
    refine ops_ro' rfl (ro_conv Try.underlying28 Try.underlying3 rfl (rfl)) rfl ?_
    refine ops_eff' rfl (eff_call Try.call23 rfl rfl (Split.cons 1 rfl (Split.cons 1 rfl (Split.nil _))) (byte_spec _ _ _ l (IntKind.i64.wrap (n : Int)) (by omega))) rfl ?_
    rintro _ H' ⟨_, ⟨p', c', rfl, rfl⟩, hH⟩
    simp only [List.cons_append, List.nil_append, List.eraseIdx_cons_zero, List.eraseIdx_cons_succ, List.set_cons_zero, List.set_cons_succ] at hH
    subst hH
    refine ops_nil ?_
    repeat (first | refine InBlock_normal ?_ | refine NoGoto_normal ?_ | refine Jump_normal ?_)
    refine Then_normal ?_
    refine wp_seq' ?_
    refine wp_region' ?_
    refine ops_ro' rfl (ro_move rfl) rfl ?_
    refine ops_ro' rfl (ro_fieldAddr fa62_1 rfl) rfl ?_
    refine ops_ro' rfl (ro_load sc28 rfl (by first | exact Rd.pick 0 rfl (by first | exact Rd.own rfl | exact Rd.row rfl) | exact Rd.pick 1 rfl (by first | exact Rd.own rfl | exact Rd.row rfl) | exact Rd.pick 2 rfl (by first | exact Rd.own rfl | exact Rd.row rfl) | exact Rd.pick 3 rfl (by first | exact Rd.own rfl | exact Rd.row rfl) | exact Rd.pick 4 rfl (by first | exact Rd.own rfl | exact Rd.row rfl) | exact Rd.pick 5 rfl (by first | exact Rd.own rfl | exact Rd.row rfl) | exact Rd.pick 6 rfl (by first | exact Rd.own rfl | exact Rd.row rfl) | exact Rd.pick 7 rfl (by first | exact Rd.own rfl | exact Rd.row rfl))) rfl ?_
    refine ops_ro' rfl (ro_conv Try.underlying28 Try.underlying3 rfl (rfl)) rfl ?_
    refine ops_eff' rfl (eff_call Try.call56 rfl rfl (Split.cons 3 rfl (Split.nil _)) (qbyte_spec V1 p c l hV1 (by omega) (IntKind.i64.wrap (n : Int)))) rfl ?_
    rintro _ H' ⟨_, ⟨_, ⟨p2, c2, rfl, rfl⟩, rfl⟩, hH⟩
    simp only [List.cons_append, List.nil_append, List.eraseIdx_cons_zero, List.eraseIdx_cons_succ, List.set_cons_zero, List.set_cons_succ] at hH
    subst hH
    refine ops_ro' rfl (ro_assign rfl) rfl ?_
    refine ops_nil ?_
    repeat (first | refine InBlock_normal ?_ | refine NoGoto_normal ?_ | refine Jump_normal ?_)
    refine Then_normal ?_
    refine wp_ret' ?_
    repeat (first | refine Then_ret ?_ | refine InBlock_ret ?_ | refine NoGoto_ret ?_ | refine Jump_ret ?_)
    refine done_ret (res1 rfl rfl) ?_
    exact ⟨_, _, p', c', _, (by simp [be_length]), ⟨p2, c2, rfl, rfl⟩, (Split.cons 2 rfl (Split.cons 2 rfl (Split.cons 0 rfl (Split.cons 2 rfl (Split.nil _)))))⟩
  · try replace hc0 := of_decide_eq_false hc0
    refine wp_seq' ?_
    refine wp_region' ?_
    refine ops_ro' rfl (ro_eql rfl rfl rfl) rfl ?_
    refine ops_ro' rfl (ro_assign rfl) rfl ?_
    refine ops_nil ?_
    repeat (first | refine InBlock_normal ?_ | refine NoGoto_normal ?_ | refine Jump_normal ?_)
    refine Then_normal ?_
    refine wp_cond' rfl (fun hc1 => ?_) (fun hc1 => ?_)
    · try replace hc1 := of_decide_eq_true hc1
      refine wp_seq' ?_
      refine wp_region' ?_
      refine ops_ro' rfl (ro_move rfl) rfl ?_
      refine ops_ro' rfl (ro_fieldAddr fa62_1 rfl) rfl ?_
      refine ops_ro' rfl (ro_load sc28 rfl (by first | exact Rd.pick 0 rfl (by first | exact Rd.own rfl | exact Rd.row rfl) | exact Rd.pick 1 rfl (by first | exact Rd.own rfl | exact Rd.row rfl) | exact Rd.pick 2 rfl (by first | exact Rd.own rfl | exact Rd.row rfl) | exact Rd.pick 3 rfl (by first | exact Rd.own rfl | exact Rd.row rfl) | exact Rd.pick 4 rfl (by first | exact Rd.own rfl | exact Rd.row rfl) | exact Rd.pick 5 rfl (by first | exact Rd.own rfl | exact Rd.row rfl) | exact Rd.pick 6 rfl (by first | exact Rd.own rfl | exact Rd.row rfl) | exact Rd.pick 7 rfl (by first | exact Rd.own rfl | exact Rd.row rfl))) rfl ?_
      refine ops_ro' rfl (ro_rem rfl rfl (by omega) (show ((n : Nat) : Int).tmod 2 = ((n % 2 : Nat) : Int) from by rw [Int.tmod_eq_emod_of_nonneg (by omega)]; omega)) rfl ?_
      refine ops_ro' rfl (ro_eql rfl rfl rfl) rfl ?_
      refine ops_eff' rfl (eff_call Try.call57 rfl rfl (Split.cons 1 rfl (Split.cons 1 rfl (Split.nil _))) (wbool_spec _ _ _ l _ (by omega))) rfl ?_
      rintro _ H' ⟨_, ⟨p', c', rfl, rfl⟩, hH⟩
      simp only [List.cons_append, List.nil_append, List.eraseIdx_cons_zero, List.eraseIdx_cons_succ, List.set_cons_zero, List.set_cons_succ] at hH
      subst hH
      refine ops_nil ?_
      repeat (first | refine InBlock_normal ?_ | refine NoGoto_normal ?_ | refine Jump_normal ?_)
      refine Then_normal ?_
      refine wp_seq' ?_
      refine wp_region' ?_
      refine ops_ro' rfl (ro_move rfl) rfl ?_
      refine ops_ro' rfl (ro_fieldAddr fa62_1 rfl) rfl ?_
      refine ops_ro' rfl (ro_load sc28 rfl (by first | exact Rd.pick 0 rfl (by first | exact Rd.own rfl | exact Rd.row rfl) | exact Rd.pick 1 rfl (by first | exact Rd.own rfl | exact Rd.row rfl) | exact Rd.pick 2 rfl (by first | exact Rd.own rfl | exact Rd.row rfl) | exact Rd.pick 3 rfl (by first | exact Rd.own rfl | exact Rd.row rfl) | exact Rd.pick 4 rfl (by first | exact Rd.own rfl | exact Rd.row rfl) | exact Rd.pick 5 rfl (by first | exact Rd.own rfl | exact Rd.row rfl) | exact Rd.pick 6 rfl (by first | exact Rd.own rfl | exact Rd.row rfl) | exact Rd.pick 7 rfl (by first | exact Rd.own rfl | exact Rd.row rfl))) rfl ?_
      refine ops_ro' rfl (ro_rem rfl rfl (by omega) (show ((n : Nat) : Int).tmod 2 = ((n % 2 : Nat) : Int) from by rw [Int.tmod_eq_emod_of_nonneg (by omega)]; omega)) rfl ?_
      refine ops_ro' rfl (ro_eql rfl rfl rfl) rfl ?_
      refine ops_eff' rfl (eff_call Try.call58 rfl rfl (Split.cons 3 rfl (Split.nil _)) (qbool_spec V1 p c l hV1 (by omega) _)) rfl ?_
      rintro _ H' ⟨_, ⟨_, ⟨p2, c2, rfl, rfl⟩, rfl⟩, hH⟩
      simp only [List.cons_append, List.nil_append, List.eraseIdx_cons_zero, List.eraseIdx_cons_succ, List.set_cons_zero, List.set_cons_succ] at hH
      subst hH
      refine ops_ro' rfl (ro_assign rfl) rfl ?_
      refine ops_nil ?_
      repeat (first | refine InBlock_normal ?_ | refine NoGoto_normal ?_ | refine Jump_normal ?_)
      refine Then_normal ?_
      refine wp_ret' ?_
      repeat (first | refine Then_ret ?_ | refine InBlock_ret ?_ | refine NoGoto_ret ?_ | refine Jump_ret ?_)
      refine done_ret (res1 rfl rfl) ?_
      exact ⟨_, _, p', c', _, (by simp [be_length]), ⟨p2, c2, rfl, rfl⟩, (Split.cons 2 rfl (Split.cons 2 rfl (Split.cons 0 rfl (Split.cons 2 rfl (Split.nil _)))))⟩
    · try replace hc1 := of_decide_eq_false hc1
      refine wp_seq' ?_
      refine wp_region' ?_
      refine ops_ro' rfl (ro_eql rfl rfl rfl) rfl ?_
      refine ops_ro' rfl (ro_assign rfl) rfl ?_
      refine ops_nil ?_
      repeat (first | refine InBlock_normal ?_ | refine NoGoto_normal ?_ | refine Jump_normal ?_)
      refine Then_normal ?_
      refine wp_cond' rfl (fun hc2 => ?_) (fun hc2 => ?_)
      · try replace hc2 := of_decide_eq_true hc2
        refine wp_seq' ?_
        refine wp_region' ?_
        refine ops_ro' rfl (ro_move rfl) rfl ?_
        refine ops_ro' rfl (ro_fieldAddr fa62_1 rfl) rfl ?_
        refine ops_ro' rfl (ro_load sc28 rfl (by first | exact Rd.pick 0 rfl (by first | exact Rd.own rfl | exact Rd.row rfl) | exact Rd.pick 1 rfl (by first | exact Rd.own rfl | exact Rd.row rfl) | exact Rd.pick 2 rfl (by first | exact Rd.own rfl | exact Rd.row rfl) | exact Rd.pick 3 rfl (by first | exact Rd.own rfl | exact Rd.row rfl) | exact Rd.pick 4 rfl (by first | exact Rd.own rfl | exact Rd.row rfl) | exact Rd.pick 5 rfl (by first | exact Rd.own rfl | exact Rd.row rfl) | exact Rd.pick 6 rfl (by first | exact Rd.own rfl | exact Rd.row rfl) | exact Rd.pick 7 rfl (by first | exact Rd.own rfl | exact Rd.row rfl))) rfl ?_
        refine ops_ro' rfl (ro_conv Try.underlying28 Try.underlying27 rfl (conv32 n)) rfl ?_
        refine ops_eff' rfl (eff_call Try.call25 rfl rfl (Split.cons 1 rfl (Split.cons 1 rfl (Split.nil _))) (u32_at _ _ _ l (n % 4294967296) _ rfl (by omega) (by omega))) rfl ?_
        rintro _ H' ⟨_, ⟨p', c', rfl, rfl⟩, hH⟩
        simp only [List.cons_append, List.nil_append, List.eraseIdx_cons_zero, List.eraseIdx_cons_succ, List.set_cons_zero, List.set_cons_succ] at hH
        subst hH
        refine ops_nil ?_
        repeat (first | refine InBlock_normal ?_ | refine NoGoto_normal ?_ | refine Jump_normal ?_)
        refine Then_normal ?_
        refine wp_seq' ?_
        refine wp_region' ?_
        refine ops_ro' rfl (ro_move rfl) rfl ?_
        refine ops_ro' rfl (ro_fieldAddr fa62_1 rfl) rfl ?_
        refine ops_ro' rfl (ro_load sc28 rfl (by first | exact Rd.pick 0 rfl (by first | exact Rd.own rfl | exact Rd.row rfl) | exact Rd.pick 1 rfl (by first | exact Rd.own rfl | exact Rd.row rfl) | exact Rd.pick 2 rfl (by first | exact Rd.own rfl | exact Rd.row rfl) | exact Rd.pick 3 rfl (by first | exact Rd.own rfl | exact Rd.row rfl) | exact Rd.pick 4 rfl (by first | exact Rd.own rfl | exact Rd.row rfl) | exact Rd.pick 5 rfl (by first | exact Rd.own rfl | exact Rd.row rfl) | exact Rd.pick 6 rfl (by first | exact Rd.own rfl | exact Rd.row rfl) | exact Rd.pick 7 rfl (by first | exact Rd.own rfl | exact Rd.row rfl))) rfl ?_
        refine ops_ro' rfl (ro_conv Try.underlying28 Try.underlying27 rfl (conv32 n)) rfl ?_
        refine ops_eff' rfl (eff_call Try.call59 rfl rfl (Split.cons 3 rfl (Split.nil _)) (w32_at V1 p c l (n % 4294967296) _ rfl hV1 (by omega))) rfl ?_
        rintro _ H' ⟨_, ⟨_, ⟨p2, c2, rfl, rfl⟩, rfl⟩, hH⟩
        simp only [List.cons_append, List.nil_append, List.eraseIdx_cons_zero, List.eraseIdx_cons_succ, List.set_cons_zero, List.set_cons_succ] at hH
        subst hH
        refine ops_ro' rfl (ro_assign rfl) rfl ?_
        refine ops_nil ?_
        repeat (first | refine InBlock_normal ?_ | refine NoGoto_normal ?_ | refine Jump_normal ?_)
        refine Then_normal ?_
        refine wp_ret' ?_
        repeat (first | refine Then_ret ?_ | refine InBlock_ret ?_ | refine NoGoto_ret ?_ | refine Jump_ret ?_)
        refine done_ret (res1 rfl rfl) ?_
        exact ⟨_, _, p', c', _, (by simp [be_length]), ⟨p2, c2, rfl, rfl⟩, (Split.cons 2 rfl (Split.cons 2 rfl (Split.cons 0 rfl (Split.cons 2 rfl (Split.nil _)))))⟩
      · try replace hc2 := of_decide_eq_false hc2
        refine wp_seq' ?_
        refine wp_region' ?_
        refine ops_ro' rfl (ro_eql rfl rfl rfl) rfl ?_
        refine ops_ro' rfl (ro_assign rfl) rfl ?_
        refine ops_nil ?_
        repeat (first | refine InBlock_normal ?_ | refine NoGoto_normal ?_ | refine Jump_normal ?_)
        refine Then_normal ?_
        refine wp_cond' rfl (fun hc3 => ?_) (fun hc3 => ?_)
        · try replace hc3 := of_decide_eq_true hc3
          refine wp_seq' ?_
          refine wp_region' ?_
          refine ops_ro' rfl (ro_move rfl) rfl ?_
          refine ops_ro' rfl (ro_fieldAddr fa62_1 rfl) rfl ?_
          refine ops_ro' rfl (ro_load sc28 rfl (by first | exact Rd.pick 0 rfl (by first | exact Rd.own rfl | exact Rd.row rfl) | exact Rd.pick 1 rfl (by first | exact Rd.own rfl | exact Rd.row rfl) | exact Rd.pick 2 rfl (by first | exact Rd.own rfl | exact Rd.row rfl) | exact Rd.pick 3 rfl (by first | exact Rd.own rfl | exact Rd.row rfl) | exact Rd.pick 4 rfl (by first | exact Rd.own rfl | exact Rd.row rfl) | exact Rd.pick 5 rfl (by first | exact Rd.own rfl | exact Rd.row rfl) | exact Rd.pick 6 rfl (by first | exact Rd.own rfl | exact Rd.row rfl) | exact Rd.pick 7 rfl (by first | exact Rd.own rfl | exact Rd.row rfl))) rfl ?_
          refine ops_eff' rfl (eff_call Try.call26 rfl rfl (Split.cons 1 rfl (Split.cons 1 rfl (Split.nil _))) (u64_at _ _ _ l n _ rfl (by omega))) rfl ?_
          rintro _ H' ⟨_, ⟨p', c', rfl, rfl⟩, hH⟩
          simp only [List.cons_append, List.nil_append, List.eraseIdx_cons_zero, List.eraseIdx_cons_succ, List.set_cons_zero, List.set_cons_succ] at hH
          subst hH
          refine ops_nil ?_
          repeat (first | refine InBlock_normal ?_ | refine NoGoto_normal ?_ | refine Jump_normal ?_)
          refine Then_normal ?_
          refine wp_seq' ?_
          refine wp_region' ?_
          refine ops_ro' rfl (ro_move rfl) rfl ?_
          refine ops_ro' rfl (ro_fieldAddr fa62_1 rfl) rfl ?_
          refine ops_ro' rfl (ro_load sc28 rfl (by first | exact Rd.pick 0 rfl (by first | exact Rd.own rfl | exact Rd.row rfl) | exact Rd.pick 1 rfl (by first | exact Rd.own rfl | exact Rd.row rfl) | exact Rd.pick 2 rfl (by first | exact Rd.own rfl | exact Rd.row rfl) | exact Rd.pick 3 rfl (by first | exact Rd.own rfl | exact Rd.row rfl) | exact Rd.pick 4 rfl (by first | exact Rd.own rfl | exact Rd.row rfl) | exact Rd.pick 5 rfl (by first | exact Rd.own rfl | exact Rd.row rfl) | exact Rd.pick 6 rfl (by first | exact Rd.own rfl | exact Rd.row rfl) | exact Rd.pick 7 rfl (by first | exact Rd.own rfl | exact Rd.row rfl))) rfl ?_
          refine ops_eff' rfl (eff_call Try.call60 rfl rfl (Split.cons 3 rfl (Split.nil _)) (w64_spec V1 p c l n hV1 (by omega))) rfl ?_
          rintro _ H' ⟨_, ⟨_, ⟨p2, c2, rfl, rfl⟩, rfl⟩, hH⟩
          simp only [List.cons_append, List.nil_append, List.eraseIdx_cons_zero, List.eraseIdx_cons_succ, List.set_cons_zero, List.set_cons_succ] at hH
          subst hH
          refine ops_ro' rfl (ro_assign rfl) rfl ?_
          refine ops_nil ?_
          repeat (first | refine InBlock_normal ?_ | refine NoGoto_normal ?_ | refine Jump_normal ?_)
          refine Then_normal ?_
          refine wp_ret' ?_
          repeat (first | refine Then_ret ?_ | refine InBlock_ret ?_ | refine NoGoto_ret ?_ | refine Jump_ret ?_)
          refine done_ret (res1 rfl rfl) ?_
          exact ⟨_, _, p', c', _, (by simp [be_length]), ⟨p2, c2, rfl, rfl⟩, (Split.cons 2 rfl (Split.cons 2 rfl (Split.cons 0 rfl (Split.cons 2 rfl (Split.nil _)))))⟩
        · try replace hc3 := of_decide_eq_false hc3
          refine wp_seq' ?_
          refine wp_region' ?_
          refine ops_ro' rfl (ro_eql rfl rfl rfl) rfl ?_
          refine ops_ro' rfl (ro_assign rfl) rfl ?_
          refine ops_nil ?_
          repeat (first | refine InBlock_normal ?_ | refine NoGoto_normal ?_ | refine Jump_normal ?_)
          refine Then_normal ?_
          refine wp_cond' rfl (fun hc4 => ?_) (fun hc4 => ?_)
          · try replace hc4 := of_decide_eq_true hc4
            refine wp_seq' ?_
            refine wp_region' ?_
            refine ops_ro' rfl (ro_move rfl) rfl ?_
            refine ops_ro' rfl (ro_fieldAddr fa62_2 rfl) rfl ?_
            refine ops_ro' rfl (ro_load sc9 rfl (by first | exact Rd.pick 0 rfl (by first | exact Rd.own rfl | exact Rd.row rfl) | exact Rd.pick 1 rfl (by first | exact Rd.own rfl | exact Rd.row rfl) | exact Rd.pick 2 rfl (by first | exact Rd.own rfl | exact Rd.row rfl) | exact Rd.pick 3 rfl (by first | exact Rd.own rfl | exact Rd.row rfl) | exact Rd.pick 4 rfl (by first | exact Rd.own rfl | exact Rd.row rfl) | exact Rd.pick 5 rfl (by first | exact Rd.own rfl | exact Rd.row rfl) | exact Rd.pick 6 rfl (by first | exact Rd.own rfl | exact Rd.row rfl) | exact Rd.pick 7 rfl (by first | exact Rd.own rfl | exact Rd.row rfl))) rfl ?_
            refine ops_eff' rfl (eff_call Try.call27 rfl rfl (Split.cons 1 rfl (Split.cons 1 rfl (Split.nil _))) (text_spec _ _ _ l s (by omega) (by omega))) rfl ?_
            rintro _ H' ⟨_, ⟨p', c', rfl, rfl⟩, hH⟩
            simp only [List.cons_append, List.nil_append, List.eraseIdx_cons_zero, List.eraseIdx_cons_succ, List.set_cons_zero, List.set_cons_succ] at hH
            subst hH
            rw [List.append_assoc]
            refine ops_nil ?_
            repeat (first | refine InBlock_normal ?_ | refine NoGoto_normal ?_ | refine Jump_normal ?_)
            refine Then_normal ?_
            refine wp_seq' ?_
            refine wp_region' ?_
            refine ops_ro' rfl (ro_move rfl) rfl ?_
            refine ops_ro' rfl (ro_fieldAddr fa62_2 rfl) rfl ?_
            refine ops_ro' rfl (ro_load sc9 rfl (by first | exact Rd.pick 0 rfl (by first | exact Rd.own rfl | exact Rd.row rfl) | exact Rd.pick 1 rfl (by first | exact Rd.own rfl | exact Rd.row rfl) | exact Rd.pick 2 rfl (by first | exact Rd.own rfl | exact Rd.row rfl) | exact Rd.pick 3 rfl (by first | exact Rd.own rfl | exact Rd.row rfl) | exact Rd.pick 4 rfl (by first | exact Rd.own rfl | exact Rd.row rfl) | exact Rd.pick 5 rfl (by first | exact Rd.own rfl | exact Rd.row rfl) | exact Rd.pick 6 rfl (by first | exact Rd.own rfl | exact Rd.row rfl) | exact Rd.pick 7 rfl (by first | exact Rd.own rfl | exact Rd.row rfl))) rfl ?_
            refine ops_eff' rfl (eff_call Try.call61 rfl rfl (Split.cons 3 rfl (Split.nil _)) (qtext_spec V1 p c l hV1 (by omega) s (by omega) (by omega))) rfl ?_
            rintro _ H' ⟨_, ⟨_, ⟨p2, c2, rfl, rfl⟩, rfl⟩, hH⟩
            simp only [List.cons_append, List.nil_append, List.eraseIdx_cons_zero, List.eraseIdx_cons_succ, List.set_cons_zero, List.set_cons_succ] at hH
            subst hH
            refine ops_ro' rfl (ro_assign rfl) rfl ?_
            refine ops_nil ?_
            repeat (first | refine InBlock_normal ?_ | refine NoGoto_normal ?_ | refine Jump_normal ?_)
            refine Then_normal ?_
            refine wp_ret' ?_
            repeat (first | refine Then_ret ?_ | refine InBlock_ret ?_ | refine NoGoto_ret ?_ | refine Jump_ret ?_)
            refine done_ret (res1 rfl rfl) ?_
            exact ⟨_, _, p', c', _, (by simp [be_length]; omega), ⟨p2, c2, rfl, rfl⟩, (Split.cons 2 rfl (Split.cons 2 rfl (Split.cons 0 rfl (Split.cons 2 rfl (Split.nil _)))))⟩
          · try replace hc4 := of_decide_eq_false hc4
            refine wp_seq' ?_
            refine wp_region' ?_
            refine ops_ro' rfl (ro_eql rfl rfl rfl) rfl ?_
            refine ops_ro' rfl (ro_assign rfl) rfl ?_
            refine ops_nil ?_
            repeat (first | refine InBlock_normal ?_ | refine NoGoto_normal ?_ | refine Jump_normal ?_)
            refine Then_normal ?_
            refine wp_cond' rfl (fun hc5 => ?_) (fun hc5 => ?_)
            · try replace hc5 := of_decide_eq_true hc5
              refine wp_seq' ?_
              refine wp_region' ?_
              refine ops_ro' rfl (ro_move rfl) rfl ?_
              refine ops_ro' rfl (ro_fieldAddr fa62_2 rfl) rfl ?_
              refine ops_ro' rfl (ro_load sc9 rfl (by first | exact Rd.pick 0 rfl (by first | exact Rd.own rfl | exact Rd.row rfl) | exact Rd.pick 1 rfl (by first | exact Rd.own rfl | exact Rd.row rfl) | exact Rd.pick 2 rfl (by first | exact Rd.own rfl | exact Rd.row rfl) | exact Rd.pick 3 rfl (by first | exact Rd.own rfl | exact Rd.row rfl) | exact Rd.pick 4 rfl (by first | exact Rd.own rfl | exact Rd.row rfl) | exact Rd.pick 5 rfl (by first | exact Rd.own rfl | exact Rd.row rfl) | exact Rd.pick 6 rfl (by first | exact Rd.own rfl | exact Rd.row rfl) | exact Rd.pick 7 rfl (by first | exact Rd.own rfl | exact Rd.row rfl))) rfl ?_
              refine ops_eff' rfl (eff_toBytes Try.underlying9 Try.underlying25 Try.underlying5 rfl (by simp only [maxLen]; omega)) rfl ?_
              rintro _ _ ⟨b72, c72, rfl, rfl⟩
              refine ops_know (fun w F s => row_cap3 0 rfl s) ?_
              intro hk1
              refine ops_eff' rfl (eff_call Try.call28 rfl rfl (Split.cons 2 rfl (Split.cons 2 rfl (Split.cons 0 rfl (Split.nil _)))) (mpint_at _ _ _ _ s.data.toList hsz Vw.row hk1 _ _ _ l (by omega) (by omega))) rfl ?_
              rintro _ H' ⟨_, ⟨p', c', rfl, rfl⟩, hH⟩
              simp only [List.cons_append, List.nil_append, List.eraseIdx_cons_zero, List.eraseIdx_cons_succ, List.set_cons_zero, List.set_cons_succ] at hH
              subst hH
              refine ops_nil ?_
              repeat (first | refine InBlock_normal ?_ | refine NoGoto_normal ?_ | refine Jump_normal ?_)
              refine Then_normal ?_
              refine wp_seq' ?_
              refine wp_region' ?_
              refine ops_ro' rfl (ro_move rfl) rfl ?_
              refine ops_ro' rfl (ro_fieldAddr fa62_2 rfl) rfl ?_
              refine ops_ro' rfl (ro_load sc9 rfl (by first | exact Rd.pick 0 rfl (by first | exact Rd.own rfl | exact Rd.row rfl) | exact Rd.pick 1 rfl (by first | exact Rd.own rfl | exact Rd.row rfl) | exact Rd.pick 2 rfl (by first | exact Rd.own rfl | exact Rd.row rfl) | exact Rd.pick 3 rfl (by first | exact Rd.own rfl | exact Rd.row rfl) | exact Rd.pick 4 rfl (by first | exact Rd.own rfl | exact Rd.row rfl) | exact Rd.pick 5 rfl (by first | exact Rd.own rfl | exact Rd.row rfl) | exact Rd.pick 6 rfl (by first | exact Rd.own rfl | exact Rd.row rfl) | exact Rd.pick 7 rfl (by first | exact Rd.own rfl | exact Rd.row rfl))) rfl ?_
              refine ops_eff' rfl (eff_toBytes Try.underlying9 Try.underlying25 Try.underlying5 rfl (by simp only [maxLen]; omega)) rfl ?_
              rintro _ _ ⟨b77, c77, rfl, rfl⟩
              refine ops_know (fun w F s => row_cap3 0 rfl s) ?_
              intro hk2
              refine ops_eff' rfl (eff_call Try.call62 rfl rfl (Split.cons 5 rfl (Split.cons 0 rfl (Split.nil _))) (qmpint_spec V1 _ p c l hV1 (by omega) _ _ _ s.data.toList hsz Vw.row hk2 (by omega))) rfl ?_
              rintro _ H' ⟨_, ⟨_, ⟨p2, c2, rfl, rfl⟩, rfl⟩, hH⟩
              simp only [List.cons_append, List.nil_append, List.eraseIdx_cons_zero, List.eraseIdx_cons_succ, List.set_cons_zero, List.set_cons_succ] at hH
              subst hH
              refine ops_ro' rfl (ro_assign rfl) rfl ?_
              refine ops_nil ?_
              repeat (first | refine InBlock_normal ?_ | refine NoGoto_normal ?_ | refine Jump_normal ?_)
              refine Then_normal ?_
              refine wp_ret' ?_
              repeat (first | refine Then_ret ?_ | refine InBlock_ret ?_ | refine NoGoto_ret ?_ | refine Jump_ret ?_)
              refine done_ret (res1 rfl rfl) ?_
              exact ⟨_, _, p', c', _, (by have h1 := top_le s.data.toList; simp only [mp, List.length_append, be_length]; omega), ⟨p2, c2, rfl, rfl⟩, (Split.cons 3 rfl (Split.cons 3 rfl (Split.cons 0 rfl (Split.cons 4 rfl (Split.nil _)))))⟩
            · try replace hc5 := of_decide_eq_false hc5
              refine wp_seq' ?_
              refine wp_region' ?_
              refine ops_ro' rfl (ro_eql rfl rfl rfl) rfl ?_
              refine ops_ro' rfl (ro_assign rfl) rfl ?_
              refine ops_nil ?_
              repeat (first | refine InBlock_normal ?_ | refine NoGoto_normal ?_ | refine Jump_normal ?_)
              refine Then_normal ?_
              refine wp_cond' rfl (fun hc6 => ?_) (fun hc6 => ?_)
              · try replace hc6 := of_decide_eq_true hc6
                refine wp_seq' ?_
                refine wp_region' ?_
                refine ops_ro' rfl (ro_move rfl) rfl ?_
                refine ops_ro' rfl (ro_fieldAddr fa62_3 rfl) rfl ?_
                refine ops_ro' rfl (ro_load sc60 rfl (by first | exact Rd.pick 0 rfl (by first | exact Rd.own rfl | exact Rd.row rfl) | exact Rd.pick 1 rfl (by first | exact Rd.own rfl | exact Rd.row rfl) | exact Rd.pick 2 rfl (by first | exact Rd.own rfl | exact Rd.row rfl) | exact Rd.pick 3 rfl (by first | exact Rd.own rfl | exact Rd.row rfl) | exact Rd.pick 4 rfl (by first | exact Rd.own rfl | exact Rd.row rfl) | exact Rd.pick 5 rfl (by first | exact Rd.own rfl | exact Rd.row rfl) | exact Rd.pick 6 rfl (by first | exact Rd.own rfl | exact Rd.row rfl) | exact Rd.pick 7 rfl (by first | exact Rd.own rfl | exact Rd.row rfl))) rfl ?_
                refine ops_eff' rfl (eff_call Try.call55 rfl rfl (Split.cons 1 rfl (Split.cons 1 rfl (Split.cons 2 rfl (Split.nil _)))) (names_spec V2 q cq xs hV2 hcq (by omega) (by have := hj xs.length; rw [List.take_length] at this; omega) _ _ _ l (by omega))) rfl ?_
                rintro _ H' ⟨_, ⟨p', c', rfl, rfl⟩, hH⟩
                simp only [List.cons_append, List.nil_append, List.eraseIdx_cons_zero, List.eraseIdx_cons_succ, List.set_cons_zero, List.set_cons_succ] at hH
                subst hH
                refine ops_nil ?_
                repeat (first | refine InBlock_normal ?_ | refine NoGoto_normal ?_ | refine Jump_normal ?_)
                refine Then_normal ?_
                refine wp_seq' ?_
                refine wp_region' ?_
                refine ops_ro' rfl (ro_move rfl) rfl ?_
                refine ops_ro' rfl (ro_fieldAddr fa62_3 rfl) rfl ?_
                refine ops_ro' rfl (ro_load sc60 rfl (by first | exact Rd.pick 0 rfl (by first | exact Rd.own rfl | exact Rd.row rfl) | exact Rd.pick 1 rfl (by first | exact Rd.own rfl | exact Rd.row rfl) | exact Rd.pick 2 rfl (by first | exact Rd.own rfl | exact Rd.row rfl) | exact Rd.pick 3 rfl (by first | exact Rd.own rfl | exact Rd.row rfl) | exact Rd.pick 4 rfl (by first | exact Rd.own rfl | exact Rd.row rfl) | exact Rd.pick 5 rfl (by first | exact Rd.own rfl | exact Rd.row rfl) | exact Rd.pick 6 rfl (by first | exact Rd.own rfl | exact Rd.row rfl) | exact Rd.pick 7 rfl (by first | exact Rd.own rfl | exact Rd.row rfl))) rfl ?_
                refine ops_eff' rfl (eff_call Try.call63 rfl rfl (Split.cons 4 rfl (Split.cons 2 rfl (Split.nil _))) (qnames_spec V1 V2 p c l hV1 (by omega) q cq xs hV2 hx (by omega) (fun i => by have := hj i; omega))) rfl ?_
                rintro _ H' ⟨_, ⟨_, ⟨p2, c2, rfl, rfl⟩, rfl⟩, hH⟩
                simp only [List.cons_append, List.nil_append, List.eraseIdx_cons_zero, List.eraseIdx_cons_succ, List.set_cons_zero, List.set_cons_succ] at hH
                subst hH
                rw [str_size]
                refine ops_ro' rfl (ro_assign rfl) rfl ?_
                refine ops_nil ?_
                repeat (first | refine InBlock_normal ?_ | refine NoGoto_normal ?_ | refine Jump_normal ?_)
                refine Then_normal ?_
                refine wp_ret' ?_
                repeat (first | refine Then_ret ?_ | refine InBlock_ret ?_ | refine NoGoto_ret ?_ | refine Jump_ret ?_)
                refine done_ret (res1 rfl rfl) ?_
                exact ⟨_, _, p', c', _, (by have := hj xs.length; rw [List.take_length] at this; simp only [List.length_append, be_length]; simp [str]; omega), ⟨p2, c2, rfl, rfl⟩, (Split.cons 3 rfl (Split.cons 3 rfl (Split.cons 0 rfl (Split.cons 1 rfl (Split.nil _)))))⟩
              · try replace hc6 := of_decide_eq_false hc6
                refine wp_skip' ?_
                repeat (first | refine InBlock_normal ?_ | refine NoGoto_normal ?_ | refine Jump_normal ?_)
                refine Then_normal ?_
                refine wp_seq' ?_
                refine wp_region' ?_
                refine ops_ro' rfl (ro_move rfl) rfl ?_
                refine ops_ro' rfl (ro_fieldAddr fa62_2 rfl) rfl ?_
                refine ops_ro' rfl (ro_load sc9 rfl (by first | exact Rd.pick 0 rfl (by first | exact Rd.own rfl | exact Rd.row rfl) | exact Rd.pick 1 rfl (by first | exact Rd.own rfl | exact Rd.row rfl) | exact Rd.pick 2 rfl (by first | exact Rd.own rfl | exact Rd.row rfl) | exact Rd.pick 3 rfl (by first | exact Rd.own rfl | exact Rd.row rfl) | exact Rd.pick 4 rfl (by first | exact Rd.own rfl | exact Rd.row rfl) | exact Rd.pick 5 rfl (by first | exact Rd.own rfl | exact Rd.row rfl) | exact Rd.pick 6 rfl (by first | exact Rd.own rfl | exact Rd.row rfl) | exact Rd.pick 7 rfl (by first | exact Rd.own rfl | exact Rd.row rfl))) rfl ?_
                refine ops_eff' rfl (eff_toBytes Try.underlying9 Try.underlying25 Try.underlying5 rfl (by simp only [maxLen]; omega)) rfl ?_
                rintro _ _ ⟨b92, c92, rfl, rfl⟩
                refine ops_eff' rfl (eff_call Try.call64 rfl rfl (Split.cons 2 rfl (Split.cons 2 rfl (Split.cons 0 rfl (Split.nil _)))) (wraw_at _ _ _ _ s.data.toList hsz Vw.row _ _ _ l (by omega) (by omega))) rfl ?_
                rintro _ H' ⟨_, ⟨p', c', rfl, rfl⟩, hH⟩
                simp only [List.cons_append, List.nil_append, List.eraseIdx_cons_zero, List.eraseIdx_cons_succ, List.set_cons_zero, List.set_cons_succ] at hH
                subst hH
                refine ops_nil ?_
                repeat (first | refine InBlock_normal ?_ | refine NoGoto_normal ?_ | refine Jump_normal ?_)
                refine Then_normal ?_
                refine wp_seq' ?_
                refine wp_draw 6 (by kernel_rfl) (Split.cons 3 rfl (Split.nil _)) ?_
                refine any_ro' (i := 1) (by kernel_rfl) rfl rfl (ro_move rfl) rfl (fun _ _ _ h => h) ?_
                refine any_ro' (i := 3) (by kernel_rfl) rfl rfl (ro_fieldAddr fa62_2 rfl) rfl (fun _ _ _ h => h) ?_
                refine any_ro' (i := 4) (by kernel_rfl) rfl rfl (ro_load sc9 rfl (by first | exact Rd.pick 0 rfl (by first | exact Rd.own rfl | exact Rd.row rfl) | exact Rd.pick 1 rfl (by first | exact Rd.own rfl | exact Rd.row rfl) | exact Rd.pick 2 rfl (by first | exact Rd.own rfl | exact Rd.row rfl) | exact Rd.pick 3 rfl (by first | exact Rd.own rfl | exact Rd.row rfl) | exact Rd.pick 4 rfl (by first | exact Rd.own rfl | exact Rd.row rfl) | exact Rd.pick 5 rfl (by first | exact Rd.own rfl | exact Rd.row rfl) | exact Rd.pick 6 rfl (by first | exact Rd.own rfl | exact Rd.row rfl) | exact Rd.pick 7 rfl (by first | exact Rd.own rfl | exact Rd.row rfl))) rfl (fun _ _ _ h => h) ?_
                refine any_eff' (i := 0) (by kernel_rfl) rfl rfl (eff_buildSlice rfl (sbld (cs := []) [] sl25 (by decide) (by kernel_rfl) rfl)) rfl ?_
                rintro _ _ ⟨b94, rfl, rfl⟩
                refine any_eff' (i := 2) (by kernel_rfl) rfl rfl (eff_appendLit (src := .slice p l.length c) (m := l.length) (news := cel l) 0 sl25 (.inl ⟨_, Try.underlying25⟩) rfl rfl rfl rfl (Src.of_vw (Vw.pick 3 rfl hV1) (by simp [cel_length]) (cel_one l)) (by omega) (by simp only [maxLen]; omega)) rfl ?_
                rintro _ _ ⟨b', c9, rfl, rfl⟩
                refine any_eff' (i := 5) (by kernel_rfl) rfl rfl (eff_append 0 sl25 (.inr Try.underlying9) rfl rfl rfl (Src.str _ s) (by omega) (by simp only [maxLen]; omega)) rfl ?_
                rintro _ _ ⟨_, ⟨p2, c2, rfl, -, rfl⟩, rfl⟩
                refine any_unlock (m' := 7) (L' := []) (by kernel_rfl) unlock ?_
                refine any_ro' (i := 6) (by kernel_rfl) rfl rfl (ro_assign rfl) rfl (fun _ _ _ h => h) ?_
                refine any_doneH (by kernel_rfl) ?_
                repeat (first | refine InBlock_normal ?_ | refine NoGoto_normal ?_ | refine Jump_normal ?_)
                refine Then_normal ?_
                refine wp_ret' ?_
                repeat (first | refine Then_ret ?_ | refine InBlock_ret ?_ | refine NoGoto_ret ?_ | refine Jump_ret ?_)
                refine done_ret (res1 rfl rfl) ?_
                have e : row 5 1 (.slice p2 (0 + l.length + s.size) c2) (0 + l.length + s.size) (([] ++ cel l) ++ bts s) = row 5 1 (.slice p2 (l ++ s.data.toList).length c2) (l ++ s.data.toList).length (cel (l ++ s.data.toList)) := by rw [List.length_append, hsz, cel_append, Nat.zero_add]; rfl
                exact ⟨s.data.toList, _, p', c', _, by omega, ⟨p2, c2, by simp [hsz], e⟩, (Split.cons 2 rfl (Split.cons 2 rfl (Split.cons 1 rfl (Split.cons 3 rfl (Split.nil _)))))⟩
theorem put_both (V1 V2 : HProp) (pw : Nat) (p0 : Option Addr) (c0 : Nat) (p : Option Addr) (c : Nat) (l : List UInt8) (hV1 : Vw V1 (.slice p l.length c) l.length (cel l)) (hl : l.length ≤ 35184372000000) (k : Int) (n : Nat) (hn : n < 18446744073709551616) (s : ByteArray) (hs : s.size ≤ 200)
    (q : Option Addr) (cq : Nat) (xs : List (List UInt8)) (hV2 : Vw V2 (.slice q xs.length cq) xs.length (xs.map fun x => Value.string (str x))) (hcq : xs.length ≤ cq) (hxl : xs.length ≤ 8) (hx : ∀ x ∈ xs, x.length ≤ 35184372088000) (hj : ∀ i, (joined (xs.take i) [44]).length ≤ 700) :
    Tri Try.prog 30 [.pointer (some ⟨pw, 0, none⟩), .slice p l.length c, .agg [Value.int .i64 k, .int .u64 (n : Nat), .string s, .slice q xs.length cq].toArray] (wr pw p0 c0 l ++ [V1, V2]) (fun v H' => ∃ e A p' c', e.length ≤ 1000 ∧ Rowo v (l ++ e) A ∧ H' = wr pw p' c' (l ++ e) ++ [A, V2]) :=
  tri_weak (put_run1 V1 V2 pw p0 c0 p c l hV1 hl k n hn s hs q cq xs hV2 hcq hxl hx hj) fun v H ⟨e, A, p', c', Hi, h1, h2, h3⟩ => ⟨_, ⟨e, A, p', c', h1, h2, rfl⟩, fun w F s => by
    rw [h3, star_assoc, star_left_comm] at s
    exact sat_star_right s⟩

end Go.Proofs.Ytbiohhfibkolgaa
