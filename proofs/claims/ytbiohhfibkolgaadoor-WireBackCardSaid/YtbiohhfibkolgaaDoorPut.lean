/-
  Parts, cut short, put by both.
-/
import Derived.Test.YtbiohhfibkolgaaDoorQw
import Derived.Test.YtbiohhfibkolgaaDoorLawD
import Derived.Test.YtbiohhfibkolgaaDoorNames
import Derived.Test.YtbiohhfibkolgaaDoorRef1W
namespace Go.Proofs.YtbiohhfibkolgaaDoor
open Go.Sx
set_option linter.unusedVariables false
set_option linter.unusedSimpArgs false
set_option maxRecDepth 100000
set_option maxHeartbeats 4000000

theorem top_le (l : List UInt8) : (top (bare l)).length ≤ l.length + 1 := by
  have : (bare l).length ≤ l.length := (List.dropWhile_sublist _).length_le
  unfold top; split
  · simp
  · rename_i d r hb; rw [hb] at this; split <;> simp at this ⊢ <;> omega
theorem top_yes {y : List UInt8} (h0 : 0 < y.length) (h : 128 ≤ y[0].toNat) : top y = 0 :: y := by
  cases y with
  | nil => exact absurd h0 (by simp)
  | cons d r => exact if_pos h
theorem top_no {y : List UInt8} (h0 : 0 < y.length) (h : ¬ 128 ≤ y[0].toNat) : top y = y := by
  cases y with
  | nil => rfl
  | cons d r => exact if_neg h
theorem top_nil {y : List UInt8} (h : ¬ 0 < y.length) : top y = y := by
  cases y with
  | nil => rfl
  | cons d r => exact absurd (Nat.succ_pos _) h
theorem qwMpint {V : HProp} (p : Option Addr) (c : Nat) (l : List UInt8) (hV : Vw V (.slice p l.length c) l.length (cel l)) (hl : l.length ≤ 100000000000) (q : Option Addr) (cx : Nat) (x : List UInt8) (hx : Vw V (.slice q x.length cx) x.length (cel x)) (hcx : x.length ≤ cx) (hlx : x.length ≤ 100000000000) :
    Tri Tryd.prog 71 [.slice p l.length c, .slice q x.length cx] [V] (fun v H' => ∃ K, (∃ p' c', v = .slice p' (l ++ mp x).length c' ∧ K = [row 5 1 (.slice p' (l ++ mp x).length c') (l ++ mp x).length (cel (l ++ mp x))]) ∧ H' = K ++ [V]) := by
  refine tri_of_wpS Tryd.func71 rfl Tryd.ntmps71 (by simp) ?_
  refine wp_seq' ?_
  refine wp_region' ?_
  refine ops_ro' rfl (ro_assign rfl) rfl ?_
  refine ops_nil ?_
  refine Then_normal ?_
  refine wp_seq' ?_
  refine wp_region' ?_
  refine ops_ro' rfl (ro_move rfl) rfl ?_
  refine ops_eff' rfl (eff_call Tryd.call81 rfl rfl (by repeat (first | exact Split.nil _ | apply Split.cons 0 rfl | apply Split.cons 1 rfl | apply Split.cons 2 rfl | apply Split.cons 3 rfl | apply Split.cons 4 rfl | apply Split.cons 5 rfl | apply Split.cons 6 rfl | apply Split.cons 7 rfl | apply Split.cons 8 rfl | apply Split.cons 9 rfl | apply Split.cons 10 rfl | apply Split.cons 11 rfl)) (qwBare _ _ _ hx (by omega) hcx)) rfl ?_
  rintro _ H' ⟨_, ⟨_, ⟨p7, c7, rfl, rfl⟩, rfl⟩, hH⟩
  simp only [List.cons_append, List.nil_append, List.eraseIdx_cons_zero, List.eraseIdx_cons_succ, List.set_cons_zero, List.set_cons_succ] at hH
  subst hH
  have hble : (bare x).length ≤ x.length := (List.dropWhile_sublist _).length_le
  have hmp : mp x = be (top (bare x)).length 4 ++ top (bare x) := rfl
  have htl := top_le x
  generalize bare x = y at *
  refine ops_ro' rfl (ro_assign rfl) rfl ?_
  refine ops_nil ?_
  refine Then_normal ?_
  refine wp_seq' ?_
  refine wp_seq' ?_
  refine wp_region' ?_
  refine ops_ro' rfl (ro_move rfl) rfl ?_
  refine ops_ro' rfl (ro_sliceLen Tryd.underlying28 rfl) rfl ?_
  refine ops_ro' rfl (ro_gtr rfl rfl rfl) rfl ?_
  refine ops_split rfl rfl rfl (fun hg11 => ?_) (fun hg11 => ?_)
  · replace hg11 := of_decide_eq_true hg11
    refine ops_know (fun w F s => row_ptr' 0 rfl s (by omega)) ?_
    rintro ⟨bl, rfl⟩
    have h0 : 0 < y.length := by omega
    refine ops_ro' rfl (ro_move rfl) rfl ?_
    refine ops_ro' rfl (ro_indexSlice sl28 rfl rfl rfl (by omega)) rfl ?_
    refine ops_ro' rfl (ro_load sc5 rfl (Rd.pick 0 rfl (Rd.row (j := 0) (cel_get h0)))) rfl ?_
    refine ops_ro' rfl (ro_geq rfl rfl rfl) rfl ?_
    refine ops_ro' rfl (ro_pick rfl rfl) rfl ?_
    refine ops_nil ?_
    refine Then_normal ?_
    refine wp_cond' rfl (fun hc16 => ?_) (fun hc16 => ?_)
    · replace hc16 := of_decide_eq_true hc16
      have ht : top y = [0] ++ y := top_yes h0 (by omega)
      refine wp_region' ?_
      refine ops_eff' rfl (eff_lit sl28 rfl (sbld (cs := cel [0]) [(.int .u8 0)] sl28 (by decide) (by kernel_rfl) rfl) rfl (by decide)) rfl ?_
      rintro _ _ ⟨b17, rfl, rfl⟩
      refine ops_ro' rfl (ro_move rfl) rfl ?_
      refine ops_eff' rfl (eff_appB 0 sl28 (.inl ⟨5, Tryd.underlying28⟩) rfl rfl rfl (by first | exact Src.strl | exact Src.celv (Vw.pick 0 rfl hV) | exact Src.celv (Vw.pick 1 rfl hV) | exact Src.celv (Vw.pick 2 rfl hV) | exact Src.celv (Vw.pick 3 rfl hV) | exact Src.celv (Vw.pick 4 rfl hV) | exact Src.celv (Vw.pick 5 rfl hV) | exact Src.celv (Vw.pick 6 rfl hV) | exact Src.celv (Vw.pick 7 rfl hV) | exact Src.celv (Vw.pick 8 rfl hV) | exact Src.celv (Vw.pick 9 rfl hV) | exact Src.celv (Vw.pick 0 rfl Vw.row) | exact Src.celv (Vw.pick 1 rfl Vw.row) | exact Src.celv (Vw.pick 2 rfl Vw.row) | exact Src.celv (Vw.pick 3 rfl Vw.row) | exact Src.celv (Vw.pick 4 rfl Vw.row) | exact Src.celv (Vw.pick 5 rfl Vw.row) | exact Src.celv (Vw.pick 6 rfl Vw.row) | exact Src.celv (Vw.pick 7 rfl Vw.row) | exact Src.celv (Vw.pick 8 rfl Vw.row) | exact Src.celv (Vw.pick 9 rfl Vw.row)) (by first | omega | (simp only [List.length_append, List.length_cons, List.length_nil, List.length_take, List.length_drop] at *; omega))) rfl ?_
      rintro _ _ ⟨p19, c19, rfl, hn19, rfl⟩
      simp only [List.set_cons_zero, List.set_cons_succ]
      refine ops_ro' rfl (ro_assign rfl) rfl ?_
      refine ops_nil ?_
      refine Then_normal ?_
      refine wp_seq' ?_
      refine wp_region' ?_
      refine ops_ro' rfl (ro_move rfl) rfl ?_
      refine ops_ro' rfl (ro_move rfl) rfl ?_
      refine ops_ro' rfl (ro_toStr Tryd.underlying28 Tryd.underlying5 Tryd.underlying9 rfl (Vw.pick 0 rfl Vw.row) rfl) rfl ?_
      refine ops_eff' rfl (eff_callM (Pre := []) Tryd.call70 rfl rfl (Split.nil _) (qwText _ _ _ (by first | exact (Vw.pick 0 rfl hV) | exact (Vw.pick 1 rfl hV) | exact (Vw.pick 2 rfl hV) | exact (Vw.pick 3 rfl hV) | exact (Vw.pick 4 rfl hV) | exact (Vw.pick 5 rfl hV) | exact (Vw.pick 6 rfl hV) | exact (Vw.pick 7 rfl hV) | exact (Vw.pick 8 rfl hV) | exact (Vw.pick 9 rfl hV) | exact Vw.pick 0 rfl Vw.row | exact Vw.pick 1 rfl Vw.row | exact Vw.pick 2 rfl Vw.row | exact Vw.pick 3 rfl Vw.row | exact Vw.pick 4 rfl Vw.row | exact Vw.pick 5 rfl Vw.row | exact Vw.pick 6 rfl Vw.row | exact Vw.pick 7 rfl Vw.row | exact Vw.pick 8 rfl Vw.row | exact Vw.pick 9 rfl Vw.row | exact Vw.nil _ | exact Vw.empty _ _) (by first | omega | (simp only [List.length_append, be_length, List.length_cons, List.length_nil] at *; omega)) _ (by first | omega | (simp only [List.length_append, be_length, List.length_cons, List.length_nil] at *; omega)))) rfl ?_
      rintro _ H' ⟨_, ⟨p23, c23, rfl, rfl⟩, hH⟩
      simp only [List.cons_append, List.nil_append, List.eraseIdx_cons_zero, List.eraseIdx_cons_succ, List.set_cons_zero, List.set_cons_succ] at hH
      subst hH
      refine ops_ro' rfl (ro_assign rfl) rfl ?_
      refine ops_nil ?_
      refine Then_normal ?_
      refine wp_ret' ?_
      rw [hmp, ht, ← List.append_assoc]
      refine' doneS_ret (res1 rfl rfl) ?_ ?_
      rotate_left 1
      exact ⟨_, ⟨p23, c23, rfl, rfl⟩, rfl⟩
      exact (SubH.cons 0 rfl (SubH.cons 2 rfl (SubH.nil _)))
    · replace hc16 := of_decide_eq_false hc16
      have ht : top y = y := by first | exact top_no h0 (by omega) | exact top_nil (by omega)
      refine wp_skip' ?_
      refine Then_normal ?_
      refine wp_seq' ?_
      refine wp_region' ?_
      refine ops_ro' rfl (ro_move rfl) rfl ?_
      refine ops_ro' rfl (ro_move rfl) rfl ?_
      refine ops_ro' rfl (ro_toStr Tryd.underlying28 Tryd.underlying5 Tryd.underlying9 rfl (Vw.pick 0 rfl Vw.row) rfl) rfl ?_
      refine ops_eff' rfl (eff_callM (Pre := []) Tryd.call70 rfl rfl (Split.nil _) (qwText _ _ _ (by first | exact (Vw.pick 0 rfl hV) | exact (Vw.pick 1 rfl hV) | exact (Vw.pick 2 rfl hV) | exact (Vw.pick 3 rfl hV) | exact (Vw.pick 4 rfl hV) | exact (Vw.pick 5 rfl hV) | exact (Vw.pick 6 rfl hV) | exact (Vw.pick 7 rfl hV) | exact (Vw.pick 8 rfl hV) | exact (Vw.pick 9 rfl hV) | exact Vw.pick 0 rfl Vw.row | exact Vw.pick 1 rfl Vw.row | exact Vw.pick 2 rfl Vw.row | exact Vw.pick 3 rfl Vw.row | exact Vw.pick 4 rfl Vw.row | exact Vw.pick 5 rfl Vw.row | exact Vw.pick 6 rfl Vw.row | exact Vw.pick 7 rfl Vw.row | exact Vw.pick 8 rfl Vw.row | exact Vw.pick 9 rfl Vw.row | exact Vw.nil _ | exact Vw.empty _ _) (by first | omega | (simp only [List.length_append, be_length, List.length_cons, List.length_nil] at *; omega)) _ (by first | omega | (simp only [List.length_append, be_length, List.length_cons, List.length_nil] at *; omega)))) rfl ?_
      rintro _ H' ⟨_, ⟨p23, c23, rfl, rfl⟩, hH⟩
      simp only [List.cons_append, List.nil_append, List.eraseIdx_cons_zero, List.eraseIdx_cons_succ, List.set_cons_zero, List.set_cons_succ] at hH
      subst hH
      refine ops_ro' rfl (ro_assign rfl) rfl ?_
      refine ops_nil ?_
      refine Then_normal ?_
      refine wp_ret' ?_
      rw [hmp, ht, ← List.append_assoc]
      refine' doneS_ret (res1 rfl rfl) ?_ ?_
      rotate_left 1
      exact ⟨_, ⟨p23, c23, rfl, rfl⟩, rfl⟩
      exact (SubH.cons 0 rfl (SubH.cons 1 rfl (SubH.nil _)))
  · replace hg11 := of_decide_eq_false hg11
    have ht : top y = y := top_nil (by omega)
    refine ops_skip' rfl rfl ?_
    refine ops_skip' rfl rfl ?_
    refine ops_skip' rfl rfl ?_
    refine ops_skip' rfl rfl ?_
    refine ops_ro' rfl (ro_pick rfl rfl) rfl ?_
    refine ops_nil ?_
    refine Then_normal ?_
    refine wp_condF rfl ?_
    refine wp_skip' ?_
    refine Then_normal ?_
    refine wp_seq' ?_
    refine wp_region' ?_
    refine ops_ro' rfl (ro_move rfl) rfl ?_
    refine ops_ro' rfl (ro_move rfl) rfl ?_
    refine ops_ro' rfl (ro_toStr Tryd.underlying28 Tryd.underlying5 Tryd.underlying9 rfl (Vw.pick 0 rfl Vw.row) rfl) rfl ?_
    refine ops_eff' rfl (eff_callM (Pre := []) Tryd.call70 rfl rfl (Split.nil _) (qwText _ _ _ (by first | exact (Vw.pick 0 rfl hV) | exact (Vw.pick 1 rfl hV) | exact (Vw.pick 2 rfl hV) | exact (Vw.pick 3 rfl hV) | exact (Vw.pick 4 rfl hV) | exact (Vw.pick 5 rfl hV) | exact (Vw.pick 6 rfl hV) | exact (Vw.pick 7 rfl hV) | exact (Vw.pick 8 rfl hV) | exact (Vw.pick 9 rfl hV) | exact Vw.pick 0 rfl Vw.row | exact Vw.pick 1 rfl Vw.row | exact Vw.pick 2 rfl Vw.row | exact Vw.pick 3 rfl Vw.row | exact Vw.pick 4 rfl Vw.row | exact Vw.pick 5 rfl Vw.row | exact Vw.pick 6 rfl Vw.row | exact Vw.pick 7 rfl Vw.row | exact Vw.pick 8 rfl Vw.row | exact Vw.pick 9 rfl Vw.row | exact Vw.nil _ | exact Vw.empty _ _) (by first | omega | (simp only [List.length_append, be_length, List.length_cons, List.length_nil] at *; omega)) _ (by first | omega | (simp only [List.length_append, be_length, List.length_cons, List.length_nil] at *; omega)))) rfl ?_
    rintro _ H' ⟨_, ⟨p23, c23, rfl, rfl⟩, hH⟩
    simp only [List.cons_append, List.nil_append, List.eraseIdx_cons_zero, List.eraseIdx_cons_succ, List.set_cons_zero, List.set_cons_succ] at hH
    subst hH
    refine ops_ro' rfl (ro_assign rfl) rfl ?_
    refine ops_nil ?_
    refine Then_normal ?_
    refine wp_ret' ?_
    rw [hmp, ht, ← List.append_assoc]
    refine' doneS_ret (res1 rfl rfl) ?_ ?_
    rotate_left 1
    exact ⟨_, ⟨p23, c23, rfl, rfl⟩, rfl⟩
    exact (SubH.cons 0 rfl (SubH.cons 1 rfl (SubH.nil _)))


theorem short_spec (V : HProp) (k : Int) (n : Nat) (s : List UInt8) (xs : List (List UInt8)) (q : Option Addr) (cq : Nat) (hV : Vw V (.slice q xs.length cq) xs.length (txs xs)) (hx : xs.length ≤ 9223372036854775807) :
    Tri Tryd.prog 16 [.agg [.int .i64 k, .int .u64 (n : Int), .string (str s), .slice q xs.length cq].toArray] [V] (fun v H' => ∃ K, (∃ p c, v = .agg (Pt.cs ⟨k, n, s.take 200, few2 (xs.take 8) 66, p, c⟩).toArray ∧ K = [row 9 1 (.slice p (few2 (xs.take 8) 66).length c) (few2 (xs.take 8) 66).length (txs (few2 (xs.take 8) 66))]) ∧ H' = K ++ [V]) := by
  refine tri_of_wpS Tryd.func16 rfl Tryd.ntmps16 (by simp) ?_
  refine wp_seq' ?_
  refine wp_region' ?_
  refine ops_eff' rfl (eff_box rfl) rfl ?_
  rintro _ _ ⟨b1, rfl, rfl⟩
  refine ops_eff' rfl (eff_alloc z40) rfl ?_
  rintro _ _ ⟨b2, rfl, rfl⟩
  refine ops_nil ?_
  refine Then_normal ?_
  refine wp_seq' ?_
  refine wp_region' ?_
  refine ops_ro' rfl (ro_fieldAddr fa40_2 rfl) rfl ?_
  refine ops_ro' rfl (ro_load sc9 rfl (Rd.pick 1 rfl (Rd.own rfl))) rfl ?_
  refine ops_eff' rfl (eff_call Tryd.call8 rfl rfl (by repeat (first | exact Split.nil _ | apply Split.cons 0 rfl | apply Split.cons 1 rfl | apply Split.cons 2 rfl | apply Split.cons 3 rfl | apply Split.cons 4 rfl | apply Split.cons 5 rfl | apply Split.cons 6 rfl | apply Split.cons 7 rfl | apply Split.cons 8 rfl | apply Split.cons 9 rfl | apply Split.cons 10 rfl | apply Split.cons 11 rfl)) (kHead s 200)) rfl ?_
  rintro _ H' ⟨_, ⟨rfl, rfl⟩, hH⟩
  simp only [List.cons_append, List.nil_append, List.eraseIdx_cons_zero, List.eraseIdx_cons_succ, List.set_cons_zero, List.set_cons_succ] at hH
  subst hH
  refine ops_ro' rfl (ro_fieldAddr fa40_2 rfl) rfl ?_
  refine ops_eff0 rfl (eff_store 1 sc9 rfl rfl rfl rfl (Nat.le_of_ble_eq_true rfl) (warm_zero _)) rfl ?_
  rintro _ _ rfl
  refine ops_nil ?_
  refine Then_normal ?_
  refine wp_seq' ?_
  refine wp_region' ?_
  refine ops_ro' rfl (ro_fieldAddr fa40_3 rfl) rfl ?_
  refine ops_ro' rfl (ro_load sc30 rfl (Rd.pick 1 rfl (Rd.own rfl))) rfl ?_
  refine ops_eff' rfl (eff_call Tryd.call48 rfl rfl (by repeat (first | exact Split.nil _ | apply Split.cons 0 rfl | apply Split.cons 1 rfl | apply Split.cons 2 rfl | apply Split.cons 3 rfl | apply Split.cons 4 rfl | apply Split.cons 5 rfl | apply Split.cons 6 rfl | apply Split.cons 7 rfl | apply Split.cons 8 rfl | apply Split.cons 9 rfl | apply Split.cons 10 rfl | apply Split.cons 11 rfl)) (kFew V q cq xs hV 8 66 (by omega) hx)) rfl ?_
  rintro _ H' ⟨_, ⟨_, ⟨p9, c9, rfl, rfl⟩, rfl⟩, hH⟩
  simp only [List.cons_append, List.nil_append, List.eraseIdx_cons_zero, List.eraseIdx_cons_succ, List.set_cons_zero, List.set_cons_succ] at hH
  subst hH
  refine ops_ro' rfl (ro_fieldAddr fa40_3 rfl) rfl ?_
  refine ops_eff0 rfl (eff_store 3 sc30 rfl rfl rfl rfl (Nat.le_of_ble_eq_true rfl) (warm_zero _)) rfl ?_
  rintro _ _ rfl
  refine ops_nil ?_
  refine Then_normal ?_
  refine wp_seq' ?_
  refine wp_region' ?_
  refine ops_ro' rfl (ro_loadA ag40 rfl (RdN.of_pick 3 rfl rdn_all) rfl) rfl ?_
  refine ops_eff0 rfl (eff_storeA 2 ag40 rfl rfl rfl rfl rfl (Nat.le_of_ble_eq_true rfl) (warm_zero _)) rfl ?_
  rintro _ _ rfl
  refine ops_nil ?_
  refine Then_normal ?_
  refine wp_ret' ?_
  refine' doneS_ret (resv1 rfl (rv_cellA ag40 rfl (by first | exact RdN.of_pick 0 rfl rdn_all | exact RdN.of_pick 1 rfl rdn_all | exact RdN.of_pick 2 rfl rdn_all | exact RdN.of_pick 3 rfl rdn_all | exact RdN.of_pick 4 rfl rdn_all | exact RdN.of_pick 5 rfl rdn_all | exact RdN.of_pick 6 rfl rdn_all | exact RdN.of_pick 7 rfl rdn_all | exact RdN.of_pick 8 rfl rdn_all | exact RdN.of_pick 9 rfl rdn_all) rfl)) ?_ ?_
  rotate_left 1
  exact ⟨_, ⟨p9, c9, rfl, rfl⟩, rfl⟩
  exact (SubH.cons 0 rfl (SubH.cons 0 rfl (SubH.nil _)))


theorem joined_c : ∀ xs : List (List UInt8), joined xs [44] = joinc 44 xs
  | [] => rfl
  | [x] => by rw [joined, Lib.join_one]; rfl
  | x :: y :: r => by
    have h := joined_c (y :: r)
    rw [joined, Lib.join_cons] at h ⊢
    rw [joinc_cons 44 x (by simp), ← h]
    simp [Lib.joinTail]
theorem tri_w1 {f : FuncId} {args : List Value} {pw : Nat} {p : Option Addr} {c : Nat} {a a2 : List UInt8} (h : Tri Tryd.prog f args (wr pw p c a) (fun v H' => ∃ p' c', v = .tuple #[] ∧ H' = wr pw p' c' a2)) (hb : a2.length ≤ a.length + 1000) :
    Tri Tryd.prog f args (wr pw p c a) (fun v H' => ∃ a2 p' c', v = .tuple #[] ∧ List.length a2 ≤ a.length + 1000 ∧ H' = wr pw p' c' a2) := tri_post h fun v H' ⟨p', c', h1, h2⟩ => ⟨a2, p', c', h1, hb, h2⟩
theorem tri_wV {f : FuncId} {args : List Value} {V : HProp} {pw : Nat} {p : Option Addr} {c : Nat} {a a2 : List UInt8} (h : Tri Tryd.prog f args (wr pw p c a ++ [V]) (fun v H' => ∃ p' c', v = .tuple #[] ∧ H' = wr pw p' c' a2 ++ [V])) (hb : a2.length ≤ a.length + 1000) :
    Tri Tryd.prog f args (wr pw p c a ++ [V]) (fun v H' => ∃ K, (∃ a2 p' c', v = .tuple #[] ∧ List.length a2 ≤ a.length + 1000 ∧ K = wr pw p' c' a2) ∧ H' = K ++ [V]) := tri_post h fun v H' ⟨p', c', h1, h2⟩ => ⟨_, ⟨a2, p', c', h1, hb, rfl⟩, h2⟩
theorem lput_spec {V : HProp} (pw : Nat) (pp : Option Addr) (cp : Nat) (a : List UInt8) (ha : a.length ≤ 1000000) (p : Option Addr) (c : Nat) (l : List UInt8) (hV : Vw V (.slice p l.length c) l.length (cel l)) (hl : l.length ≤ 1000000) (k : Int) (n : Nat) (hn : n < 18446744073709551616) (s : List UInt8) (hs : s.length ≤ 200) (xs : List (List UInt8)) (q : Option Addr) (cq : Nat) (hx : Vw V (.slice q xs.length cq) xs.length (txs xs)) (hcq : xs.length ≤ cq) (hxl : xs.length ≤ 8) (hj : ∀ i, (joinc 44 (xs.take i)).length ≤ 700) (hxx : ∀ y ∈ xs, y.length ≤ 66) :
    Tri Tryd.prog 38 [.pointer (some ⟨pw, 0, none⟩), .slice p l.length c, .agg (Pt.cs ⟨k, n, s, xs, q, cq⟩).toArray] (wr pw pp cp a ++ [V]) (fun v H' => ∃ K, (∃ e a' pp' cp' p' c', v = .slice p' (l ++ e).length c' ∧ e.length ≤ 1000 ∧ a'.length ≤ a.length + 1000 ∧ K = wr pw pp' cp' a' ++ [row 5 1 (.slice p' (l ++ e).length c') (l ++ e).length (cel (l ++ e))]) ∧ H' = K ++ [V]) := by
  refine tri_of_wpS Tryd.func38 rfl Tryd.ntmps38 (by simp) ?_
  refine wp_seq' ?_
  refine wp_region' ?_
  refine ops_eff' rfl (eff_box rfl) rfl ?_
  rintro _ _ ⟨b5, rfl, rfl⟩
  refine ops_ro' rfl (ro_assign rfl) rfl ?_
  refine ops_nil ?_
  refine Then_normal ?_
  refine wp_seq' ?_
  refine wp_seq' ?_
  refine wp_region' ?_
  refine ops_ro' rfl (ro_fieldAddr fa40_0 rfl) rfl ?_
  refine ops_ro' rfl (ro_load sc3 rfl (Rd.pick 0 rfl (Rd.own rfl))) rfl ?_
  refine ops_nil ?_
  refine Then_normal ?_
  refine wp_block' ?_
  refine wp_seq' ?_
  refine wp_region' ?_
  refine ops_ro' rfl (ro_eql rfl rfl rfl) rfl ?_
  refine ops_ro' rfl (ro_assign rfl) rfl ?_
  refine ops_nil ?_
  refine Then_normal ?_
  refine wp_cond' rfl (fun hc9 => ?_) (fun hc9 => ?_)
  · replace hc9 := of_decide_eq_true hc9
    dsimp only at hc9
    refine wp_seq' ?_
    refine wp_region' ?_
    refine ops_ro' rfl (ro_move rfl) rfl ?_
    refine ops_ro' rfl (ro_fieldAddr fa40_1 rfl) rfl ?_
    refine ops_ro' rfl (ro_load sc38 rfl (Rd.pick 0 rfl (Rd.own rfl))) rfl ?_
    refine ops_ro' rfl (ro_conv Tryd.underlying38 Tryd.underlying3 rfl (rfl)) rfl ?_
    refine ops_eff' rfl (eff_call Tryd.call18 rfl rfl (by repeat (first | exact Split.nil _ | apply Split.cons 0 rfl | apply Split.cons 1 rfl | apply Split.cons 2 rfl | apply Split.cons 3 rfl | apply Split.cons 4 rfl | apply Split.cons 5 rfl | apply Split.cons 6 rfl | apply Split.cons 7 rfl | apply Split.cons 8 rfl | apply Split.cons 9 rfl | apply Split.cons 10 rfl | apply Split.cons 11 rfl)) (tri_w1 (byte_spec pw pp cp a (IntKind.i64.wrap (n : Int)) (by omega)) (by have h1 := top_le s; have h2 := hj xs.length; rw [List.take_length] at h2; simp only [mp, joined_c, List.length_append, be_length, List.length_cons, List.length_nil]; omega))) rfl ?_
    rintro _ H' ⟨_, ⟨a2, p1, c1, rfl, ha2, rfl⟩, hH⟩
    simp only [List.cons_append, List.nil_append, List.eraseIdx_cons_zero, List.eraseIdx_cons_succ, List.set_cons_zero, List.set_cons_succ] at hH
    subst hH
    refine ops_nil ?_
    refine Then_normal ?_
    refine wp_seq' ?_
    refine wp_region' ?_
    refine ops_ro' rfl (ro_move rfl) rfl ?_
    refine ops_ro' rfl (ro_fieldAddr fa40_1 rfl) rfl ?_
    refine ops_ro' rfl (ro_load sc38 rfl (Rd.pick 2 rfl (Rd.own rfl))) rfl ?_
    refine ops_ro' rfl (ro_conv Tryd.underlying38 Tryd.underlying3 rfl (rfl)) rfl ?_
    refine ops_eff' rfl (eff_callM (Pre := []) Tryd.call66 rfl rfl (Split.nil _) (qwByte _ _ _ (by first | exact (Vw.pick 0 rfl hV) | exact (Vw.pick 1 rfl hV) | exact (Vw.pick 2 rfl hV) | exact (Vw.pick 3 rfl hV) | exact (Vw.pick 4 rfl hV) | exact (Vw.pick 5 rfl hV) | exact (Vw.pick 6 rfl hV) | exact (Vw.pick 7 rfl hV) | exact (Vw.pick 8 rfl hV) | exact (Vw.pick 9 rfl hV) | exact (Vw.pick 0 rfl hx) | exact (Vw.pick 1 rfl hx) | exact (Vw.pick 2 rfl hx) | exact (Vw.pick 3 rfl hx) | exact (Vw.pick 4 rfl hx) | exact (Vw.pick 5 rfl hx) | exact (Vw.pick 6 rfl hx) | exact (Vw.pick 7 rfl hx) | exact (Vw.pick 8 rfl hx) | exact (Vw.pick 9 rfl hx) | exact Vw.pick 0 rfl Vw.row | exact Vw.pick 1 rfl Vw.row | exact Vw.pick 2 rfl Vw.row | exact Vw.pick 3 rfl Vw.row | exact Vw.pick 4 rfl Vw.row | exact Vw.pick 5 rfl Vw.row | exact Vw.pick 6 rfl Vw.row | exact Vw.pick 7 rfl Vw.row | exact Vw.pick 8 rfl Vw.row | exact Vw.pick 9 rfl Vw.row | exact Vw.nil _ | exact Vw.empty _ _) (by first | omega | (simp only [List.length_append, be_length, List.length_cons, List.length_nil] at *; omega)) _)) rfl ?_
    rintro _ H' ⟨_, ⟨p20, c20, rfl, rfl⟩, hH⟩
    simp only [List.cons_append, List.nil_append, List.eraseIdx_cons_zero, List.eraseIdx_cons_succ, List.set_cons_zero, List.set_cons_succ] at hH
    subst hH
    refine ops_ro' rfl (ro_assign rfl) rfl ?_
    refine ops_nil ?_
    refine Then_normal ?_
    refine wp_ret' ?_
    refine InBlock_ret ?_
    refine Then_ret ?_
    refine' doneS_ret (res1 rfl rfl) ?_ ?_
    rotate_left 1
    refine ⟨_, ⟨_, a2, p1, c1, _, _, rfl, ?_, ha2, rfl⟩, rfl⟩
    have h1 := top_le s
    have h2 := hj xs.length
    rw [List.take_length] at h2
    try simp only [mp, joined_c, List.length_append, be_length, List.length_cons, List.length_nil]
    omega
    exact (SubH.cons 1 rfl (SubH.cons 1 rfl (SubH.cons 0 rfl (SubH.cons 1 rfl (SubH.nil _)))))
  · replace hc9 := of_decide_eq_false hc9
    dsimp only at hc9
    refine wp_seq' ?_
    refine wp_region' ?_
    refine ops_ro' rfl (ro_eql rfl rfl rfl) rfl ?_
    refine ops_ro' rfl (ro_assign rfl) rfl ?_
    refine ops_nil ?_
    refine Then_normal ?_
    refine wp_cond' rfl (fun hc21 => ?_) (fun hc21 => ?_)
    · replace hc21 := of_decide_eq_true hc21
      dsimp only at hc21
      refine wp_seq' ?_
      refine wp_region' ?_
      refine ops_ro' rfl (ro_move rfl) rfl ?_
      refine ops_ro' rfl (ro_fieldAddr fa40_1 rfl) rfl ?_
      refine ops_ro' rfl (ro_load sc38 rfl (Rd.pick 0 rfl (Rd.own rfl))) rfl ?_
      refine ops_ro' rfl (ro_rem rfl rfl (by omega) (show ((n : Nat) : Int).tmod 2 = ((n % 2 : Nat) : Int) from by rw [Int.tmod_eq_emod_of_nonneg (by omega)]; omega)) rfl ?_
      refine ops_ro' rfl (ro_eql rfl rfl rfl) rfl ?_
      refine ops_eff' rfl (eff_call Tryd.call23 rfl rfl (by repeat (first | exact Split.nil _ | apply Split.cons 0 rfl | apply Split.cons 1 rfl | apply Split.cons 2 rfl | apply Split.cons 3 rfl | apply Split.cons 4 rfl | apply Split.cons 5 rfl | apply Split.cons 6 rfl | apply Split.cons 7 rfl | apply Split.cons 8 rfl | apply Split.cons 9 rfl | apply Split.cons 10 rfl | apply Split.cons 11 rfl)) (tri_w1 (wbool_spec pw pp cp a _ (by omega)) (by have h1 := top_le s; have h2 := hj xs.length; rw [List.take_length] at h2; simp only [mp, joined_c, List.length_append, be_length, List.length_cons, List.length_nil]; omega))) rfl ?_
      rintro _ H' ⟨_, ⟨a2, p1, c1, rfl, ha2, rfl⟩, hH⟩
      simp only [List.cons_append, List.nil_append, List.eraseIdx_cons_zero, List.eraseIdx_cons_succ, List.set_cons_zero, List.set_cons_succ] at hH
      subst hH
      refine ops_nil ?_
      refine Then_normal ?_
      refine wp_seq' ?_
      refine wp_region' ?_
      refine ops_ro' rfl (ro_move rfl) rfl ?_
      refine ops_ro' rfl (ro_fieldAddr fa40_1 rfl) rfl ?_
      refine ops_ro' rfl (ro_load sc38 rfl (Rd.pick 2 rfl (Rd.own rfl))) rfl ?_
      refine ops_ro' rfl (ro_rem rfl rfl (by omega) (show ((n : Nat) : Int).tmod 2 = ((n % 2 : Nat) : Int) from by rw [Int.tmod_eq_emod_of_nonneg (by omega)]; omega)) rfl ?_
      refine ops_ro' rfl (ro_eql rfl rfl rfl) rfl ?_
      refine ops_eff' rfl (eff_callM (Pre := []) Tryd.call67 rfl rfl (Split.nil _) (qwBool _ _ _ (by first | exact (Vw.pick 0 rfl hV) | exact (Vw.pick 1 rfl hV) | exact (Vw.pick 2 rfl hV) | exact (Vw.pick 3 rfl hV) | exact (Vw.pick 4 rfl hV) | exact (Vw.pick 5 rfl hV) | exact (Vw.pick 6 rfl hV) | exact (Vw.pick 7 rfl hV) | exact (Vw.pick 8 rfl hV) | exact (Vw.pick 9 rfl hV) | exact (Vw.pick 0 rfl hx) | exact (Vw.pick 1 rfl hx) | exact (Vw.pick 2 rfl hx) | exact (Vw.pick 3 rfl hx) | exact (Vw.pick 4 rfl hx) | exact (Vw.pick 5 rfl hx) | exact (Vw.pick 6 rfl hx) | exact (Vw.pick 7 rfl hx) | exact (Vw.pick 8 rfl hx) | exact (Vw.pick 9 rfl hx) | exact Vw.pick 0 rfl Vw.row | exact Vw.pick 1 rfl Vw.row | exact Vw.pick 2 rfl Vw.row | exact Vw.pick 3 rfl Vw.row | exact Vw.pick 4 rfl Vw.row | exact Vw.pick 5 rfl Vw.row | exact Vw.pick 6 rfl Vw.row | exact Vw.pick 7 rfl Vw.row | exact Vw.pick 8 rfl Vw.row | exact Vw.pick 9 rfl Vw.row | exact Vw.nil _ | exact Vw.empty _ _) (by first | omega | (simp only [List.length_append, be_length, List.length_cons, List.length_nil] at *; omega)) _)) rfl ?_
      rintro _ H' ⟨_, ⟨p34, c34, rfl, rfl⟩, hH⟩
      simp only [List.cons_append, List.nil_append, List.eraseIdx_cons_zero, List.eraseIdx_cons_succ, List.set_cons_zero, List.set_cons_succ] at hH
      subst hH
      refine ops_ro' rfl (ro_assign rfl) rfl ?_
      refine ops_nil ?_
      refine Then_normal ?_
      refine wp_ret' ?_
      refine InBlock_ret ?_
      refine Then_ret ?_
      refine' doneS_ret (res1 rfl rfl) ?_ ?_
      rotate_left 1
      refine ⟨_, ⟨_, a2, p1, c1, _, _, rfl, ?_, ha2, rfl⟩, rfl⟩
      have h1 := top_le s
      have h2 := hj xs.length
      rw [List.take_length] at h2
      try simp only [mp, joined_c, List.length_append, be_length, List.length_cons, List.length_nil]
      omega
      exact (SubH.cons 1 rfl (SubH.cons 1 rfl (SubH.cons 0 rfl (SubH.cons 1 rfl (SubH.nil _)))))
    · replace hc21 := of_decide_eq_false hc21
      dsimp only at hc21
      refine wp_seq' ?_
      refine wp_region' ?_
      refine ops_ro' rfl (ro_eql rfl rfl rfl) rfl ?_
      refine ops_ro' rfl (ro_assign rfl) rfl ?_
      refine ops_nil ?_
      refine Then_normal ?_
      refine wp_cond' rfl (fun hc35 => ?_) (fun hc35 => ?_)
      · replace hc35 := of_decide_eq_true hc35
        dsimp only at hc35
        refine wp_seq' ?_
        refine wp_region' ?_
        refine ops_ro' rfl (ro_move rfl) rfl ?_
        refine ops_ro' rfl (ro_fieldAddr fa40_1 rfl) rfl ?_
        refine ops_ro' rfl (ro_load sc38 rfl (Rd.pick 0 rfl (Rd.own rfl))) rfl ?_
        refine ops_ro' rfl (ro_conv Tryd.underlying38 Tryd.underlying44 rfl (conv32 n)) rfl ?_
        refine ops_eff' rfl (eff_call Tryd.call19 rfl rfl (by repeat (first | exact Split.nil _ | apply Split.cons 0 rfl | apply Split.cons 1 rfl | apply Split.cons 2 rfl | apply Split.cons 3 rfl | apply Split.cons 4 rfl | apply Split.cons 5 rfl | apply Split.cons 6 rfl | apply Split.cons 7 rfl | apply Split.cons 8 rfl | apply Split.cons 9 rfl | apply Split.cons 10 rfl | apply Split.cons 11 rfl)) (tri_w1 (u32_at pw pp cp a (n % 4294967296) _ rfl (by omega) (by omega)) (by have h1 := top_le s; have h2 := hj xs.length; rw [List.take_length] at h2; simp only [mp, joined_c, List.length_append, be_length, List.length_cons, List.length_nil]; omega))) rfl ?_
        rintro _ H' ⟨_, ⟨a2, p1, c1, rfl, ha2, rfl⟩, hH⟩
        simp only [List.cons_append, List.nil_append, List.eraseIdx_cons_zero, List.eraseIdx_cons_succ, List.set_cons_zero, List.set_cons_succ] at hH
        subst hH
        refine ops_nil ?_
        refine Then_normal ?_
        refine wp_seq' ?_
        refine wp_region' ?_
        refine ops_ro' rfl (ro_move rfl) rfl ?_
        refine ops_ro' rfl (ro_fieldAddr fa40_1 rfl) rfl ?_
        refine ops_ro' rfl (ro_load sc38 rfl (Rd.pick 2 rfl (Rd.own rfl))) rfl ?_
        refine ops_ro' rfl (ro_conv Tryd.underlying38 Tryd.underlying44 rfl (conv32 n)) rfl ?_
        refine ops_eff' rfl (eff_callM (Pre := []) Tryd.call68 rfl rfl (Split.nil _) (qwU32 _ _ _ (by first | exact (Vw.pick 0 rfl hV) | exact (Vw.pick 1 rfl hV) | exact (Vw.pick 2 rfl hV) | exact (Vw.pick 3 rfl hV) | exact (Vw.pick 4 rfl hV) | exact (Vw.pick 5 rfl hV) | exact (Vw.pick 6 rfl hV) | exact (Vw.pick 7 rfl hV) | exact (Vw.pick 8 rfl hV) | exact (Vw.pick 9 rfl hV) | exact (Vw.pick 0 rfl hx) | exact (Vw.pick 1 rfl hx) | exact (Vw.pick 2 rfl hx) | exact (Vw.pick 3 rfl hx) | exact (Vw.pick 4 rfl hx) | exact (Vw.pick 5 rfl hx) | exact (Vw.pick 6 rfl hx) | exact (Vw.pick 7 rfl hx) | exact (Vw.pick 8 rfl hx) | exact (Vw.pick 9 rfl hx) | exact Vw.pick 0 rfl Vw.row | exact Vw.pick 1 rfl Vw.row | exact Vw.pick 2 rfl Vw.row | exact Vw.pick 3 rfl Vw.row | exact Vw.pick 4 rfl Vw.row | exact Vw.pick 5 rfl Vw.row | exact Vw.pick 6 rfl Vw.row | exact Vw.pick 7 rfl Vw.row | exact Vw.pick 8 rfl Vw.row | exact Vw.pick 9 rfl Vw.row | exact Vw.nil _ | exact Vw.empty _ _) (by first | omega | (simp only [List.length_append, be_length, List.length_cons, List.length_nil] at *; omega)) _)) rfl ?_
        rintro _ H' ⟨_, ⟨p46, c46, rfl, rfl⟩, hH⟩
        simp only [List.cons_append, List.nil_append, List.eraseIdx_cons_zero, List.eraseIdx_cons_succ, List.set_cons_zero, List.set_cons_succ] at hH
        subst hH
        refine ops_ro' rfl (ro_assign rfl) rfl ?_
        refine ops_nil ?_
        refine Then_normal ?_
        refine wp_ret' ?_
        refine InBlock_ret ?_
        refine Then_ret ?_
        refine' doneS_ret (res1 rfl rfl) ?_ ?_
        rotate_left 1
        refine ⟨_, ⟨_, a2, p1, c1, _, _, rfl, ?_, ha2, rfl⟩, rfl⟩
        have h1 := top_le s
        have h2 := hj xs.length
        rw [List.take_length] at h2
        try simp only [mp, joined_c, List.length_append, be_length, List.length_cons, List.length_nil]
        omega
        exact (SubH.cons 1 rfl (SubH.cons 1 rfl (SubH.cons 0 rfl (SubH.cons 1 rfl (SubH.nil _)))))
      · replace hc35 := of_decide_eq_false hc35
        dsimp only at hc35
        refine wp_seq' ?_
        refine wp_region' ?_
        refine ops_ro' rfl (ro_eql rfl rfl rfl) rfl ?_
        refine ops_ro' rfl (ro_assign rfl) rfl ?_
        refine ops_nil ?_
        refine Then_normal ?_
        refine wp_cond' rfl (fun hc47 => ?_) (fun hc47 => ?_)
        · replace hc47 := of_decide_eq_true hc47
          dsimp only at hc47
          refine wp_seq' ?_
          refine wp_region' ?_
          refine ops_ro' rfl (ro_move rfl) rfl ?_
          refine ops_ro' rfl (ro_fieldAddr fa40_1 rfl) rfl ?_
          refine ops_ro' rfl (ro_load sc38 rfl (Rd.pick 0 rfl (Rd.own rfl))) rfl ?_
          refine ops_eff' rfl (eff_call Tryd.call20 rfl rfl (by repeat (first | exact Split.nil _ | apply Split.cons 0 rfl | apply Split.cons 1 rfl | apply Split.cons 2 rfl | apply Split.cons 3 rfl | apply Split.cons 4 rfl | apply Split.cons 5 rfl | apply Split.cons 6 rfl | apply Split.cons 7 rfl | apply Split.cons 8 rfl | apply Split.cons 9 rfl | apply Split.cons 10 rfl | apply Split.cons 11 rfl)) (tri_w1 (u64_at pw pp cp a n _ rfl (by omega)) (by have h1 := top_le s; have h2 := hj xs.length; rw [List.take_length] at h2; simp only [mp, joined_c, List.length_append, be_length, List.length_cons, List.length_nil]; omega))) rfl ?_
          rintro _ H' ⟨_, ⟨a2, p1, c1, rfl, ha2, rfl⟩, hH⟩
          simp only [List.cons_append, List.nil_append, List.eraseIdx_cons_zero, List.eraseIdx_cons_succ, List.set_cons_zero, List.set_cons_succ] at hH
          subst hH
          refine ops_nil ?_
          refine Then_normal ?_
          refine wp_seq' ?_
          refine wp_region' ?_
          refine ops_ro' rfl (ro_move rfl) rfl ?_
          refine ops_ro' rfl (ro_fieldAddr fa40_1 rfl) rfl ?_
          refine ops_ro' rfl (ro_load sc38 rfl (Rd.pick 2 rfl (Rd.own rfl))) rfl ?_
          refine ops_eff' rfl (eff_callM (Pre := []) Tryd.call69 rfl rfl (Split.nil _) (qwU64 _ _ _ (by first | exact (Vw.pick 0 rfl hV) | exact (Vw.pick 1 rfl hV) | exact (Vw.pick 2 rfl hV) | exact (Vw.pick 3 rfl hV) | exact (Vw.pick 4 rfl hV) | exact (Vw.pick 5 rfl hV) | exact (Vw.pick 6 rfl hV) | exact (Vw.pick 7 rfl hV) | exact (Vw.pick 8 rfl hV) | exact (Vw.pick 9 rfl hV) | exact (Vw.pick 0 rfl hx) | exact (Vw.pick 1 rfl hx) | exact (Vw.pick 2 rfl hx) | exact (Vw.pick 3 rfl hx) | exact (Vw.pick 4 rfl hx) | exact (Vw.pick 5 rfl hx) | exact (Vw.pick 6 rfl hx) | exact (Vw.pick 7 rfl hx) | exact (Vw.pick 8 rfl hx) | exact (Vw.pick 9 rfl hx) | exact Vw.pick 0 rfl Vw.row | exact Vw.pick 1 rfl Vw.row | exact Vw.pick 2 rfl Vw.row | exact Vw.pick 3 rfl Vw.row | exact Vw.pick 4 rfl Vw.row | exact Vw.pick 5 rfl Vw.row | exact Vw.pick 6 rfl Vw.row | exact Vw.pick 7 rfl Vw.row | exact Vw.pick 8 rfl Vw.row | exact Vw.pick 9 rfl Vw.row | exact Vw.nil _ | exact Vw.empty _ _) (by first | omega | (simp only [List.length_append, be_length, List.length_cons, List.length_nil] at *; omega)) _)) rfl ?_
          rintro _ H' ⟨_, ⟨p56, c56, rfl, rfl⟩, hH⟩
          simp only [List.cons_append, List.nil_append, List.eraseIdx_cons_zero, List.eraseIdx_cons_succ, List.set_cons_zero, List.set_cons_succ] at hH
          subst hH
          refine ops_ro' rfl (ro_assign rfl) rfl ?_
          refine ops_nil ?_
          refine Then_normal ?_
          refine wp_ret' ?_
          refine InBlock_ret ?_
          refine Then_ret ?_
          refine' doneS_ret (res1 rfl rfl) ?_ ?_
          rotate_left 1
          refine ⟨_, ⟨_, a2, p1, c1, _, _, rfl, ?_, ha2, rfl⟩, rfl⟩
          have h1 := top_le s
          have h2 := hj xs.length
          rw [List.take_length] at h2
          try simp only [mp, joined_c, List.length_append, be_length, List.length_cons, List.length_nil]
          omega
          exact (SubH.cons 1 rfl (SubH.cons 1 rfl (SubH.cons 0 rfl (SubH.cons 1 rfl (SubH.nil _)))))
        · replace hc47 := of_decide_eq_false hc47
          dsimp only at hc47
          refine wp_seq' ?_
          refine wp_region' ?_
          refine ops_ro' rfl (ro_eql rfl rfl rfl) rfl ?_
          refine ops_ro' rfl (ro_assign rfl) rfl ?_
          refine ops_nil ?_
          refine Then_normal ?_
          refine wp_cond' rfl (fun hc57 => ?_) (fun hc57 => ?_)
          · replace hc57 := of_decide_eq_true hc57
            dsimp only at hc57
            refine wp_seq' ?_
            refine wp_region' ?_
            refine ops_ro' rfl (ro_move rfl) rfl ?_
            refine ops_ro' rfl (ro_fieldAddr fa40_2 rfl) rfl ?_
            refine ops_ro' rfl (ro_load sc9 rfl (Rd.pick 0 rfl (Rd.own rfl))) rfl ?_
            refine ops_eff' rfl (eff_call Tryd.call10 rfl rfl (by repeat (first | exact Split.nil _ | apply Split.cons 0 rfl | apply Split.cons 1 rfl | apply Split.cons 2 rfl | apply Split.cons 3 rfl | apply Split.cons 4 rfl | apply Split.cons 5 rfl | apply Split.cons 6 rfl | apply Split.cons 7 rfl | apply Split.cons 8 rfl | apply Split.cons 9 rfl | apply Split.cons 10 rfl | apply Split.cons 11 rfl)) (tri_w1 (text_at pw pp cp a s (by omega)) (by have h1 := top_le s; have h2 := hj xs.length; rw [List.take_length] at h2; simp only [mp, joined_c, List.length_append, be_length, List.length_cons, List.length_nil]; omega))) rfl ?_
            rintro _ H' ⟨_, ⟨a2, p1, c1, rfl, ha2, rfl⟩, hH⟩
            simp only [List.cons_append, List.nil_append, List.eraseIdx_cons_zero, List.eraseIdx_cons_succ, List.set_cons_zero, List.set_cons_succ] at hH
            subst hH
            refine ops_nil ?_
            refine Then_normal ?_
            refine wp_seq' ?_
            refine wp_region' ?_
            refine ops_ro' rfl (ro_move rfl) rfl ?_
            refine ops_ro' rfl (ro_fieldAddr fa40_2 rfl) rfl ?_
            refine ops_ro' rfl (ro_load sc9 rfl (Rd.pick 2 rfl (Rd.own rfl))) rfl ?_
            refine ops_eff' rfl (eff_callM (Pre := []) Tryd.call70 rfl rfl (Split.nil _) (qwText _ _ _ (by first | exact (Vw.pick 0 rfl hV) | exact (Vw.pick 1 rfl hV) | exact (Vw.pick 2 rfl hV) | exact (Vw.pick 3 rfl hV) | exact (Vw.pick 4 rfl hV) | exact (Vw.pick 5 rfl hV) | exact (Vw.pick 6 rfl hV) | exact (Vw.pick 7 rfl hV) | exact (Vw.pick 8 rfl hV) | exact (Vw.pick 9 rfl hV) | exact (Vw.pick 0 rfl hx) | exact (Vw.pick 1 rfl hx) | exact (Vw.pick 2 rfl hx) | exact (Vw.pick 3 rfl hx) | exact (Vw.pick 4 rfl hx) | exact (Vw.pick 5 rfl hx) | exact (Vw.pick 6 rfl hx) | exact (Vw.pick 7 rfl hx) | exact (Vw.pick 8 rfl hx) | exact (Vw.pick 9 rfl hx) | exact Vw.pick 0 rfl Vw.row | exact Vw.pick 1 rfl Vw.row | exact Vw.pick 2 rfl Vw.row | exact Vw.pick 3 rfl Vw.row | exact Vw.pick 4 rfl Vw.row | exact Vw.pick 5 rfl Vw.row | exact Vw.pick 6 rfl Vw.row | exact Vw.pick 7 rfl Vw.row | exact Vw.pick 8 rfl Vw.row | exact Vw.pick 9 rfl Vw.row | exact Vw.nil _ | exact Vw.empty _ _) (by first | omega | (simp only [List.length_append, be_length, List.length_cons, List.length_nil] at *; omega)) _ (by first | omega | (simp only [List.length_append, be_length, List.length_cons, List.length_nil] at *; omega)))) rfl ?_
            rintro _ H' ⟨_, ⟨p66, c66, rfl, rfl⟩, hH⟩
            simp only [List.cons_append, List.nil_append, List.eraseIdx_cons_zero, List.eraseIdx_cons_succ, List.set_cons_zero, List.set_cons_succ] at hH
            subst hH
            rw [List.append_assoc]
            refine ops_ro' rfl (ro_assign rfl) rfl ?_
            refine ops_nil ?_
            refine Then_normal ?_
            refine wp_ret' ?_
            refine InBlock_ret ?_
            refine Then_ret ?_
            refine' doneS_ret (res1 rfl rfl) ?_ ?_
            rotate_left 1
            refine ⟨_, ⟨_, a2, p1, c1, _, _, rfl, ?_, ha2, rfl⟩, rfl⟩
            have h1 := top_le s
            have h2 := hj xs.length
            rw [List.take_length] at h2
            try simp only [mp, joined_c, List.length_append, be_length, List.length_cons, List.length_nil]
            omega
            exact (SubH.cons 1 rfl (SubH.cons 1 rfl (SubH.cons 0 rfl (SubH.cons 1 rfl (SubH.nil _)))))
          · replace hc57 := of_decide_eq_false hc57
            dsimp only at hc57
            refine wp_seq' ?_
            refine wp_region' ?_
            refine ops_ro' rfl (ro_eql rfl rfl rfl) rfl ?_
            refine ops_ro' rfl (ro_assign rfl) rfl ?_
            refine ops_nil ?_
            refine Then_normal ?_
            refine wp_cond' rfl (fun hc67 => ?_) (fun hc67 => ?_)
            · replace hc67 := of_decide_eq_true hc67
              dsimp only at hc67
              refine wp_seq' ?_
              refine wp_region' ?_
              refine ops_ro' rfl (ro_move rfl) rfl ?_
              refine ops_ro' rfl (ro_fieldAddr fa40_2 rfl) rfl ?_
              refine ops_ro' rfl (ro_load sc9 rfl (Rd.pick 0 rfl (Rd.own rfl))) rfl ?_
              refine ops_eff' rfl (eff_toBytesS Tryd.underlying9 Tryd.underlying28 Tryd.underlying5 rfl (by simp only [maxLen]; omega)) rfl ?_
              rintro _ _ ⟨b72, c72, rfl, rfl⟩
              refine ops_know (fun w F s => row_caps 0 rfl s) ?_
              intro hcp
              refine ops_eff' rfl (eff_callM (Pre := [_, _]) Tryd.call21 rfl rfl (by repeat (first | exact Split.nil _ | apply Split.cons 0 rfl | apply Split.cons 1 rfl | apply Split.cons 2 rfl | apply Split.cons 3 rfl | apply Split.cons 4 rfl | apply Split.cons 5 rfl | apply Split.cons 6 rfl | apply Split.cons 7 rfl | apply Split.cons 8 rfl | apply Split.cons 9 rfl | apply Split.cons 10 rfl | apply Split.cons 11 rfl)) (tri_wV (mpint_at _ _ _ _ s rfl (by first | exact (Vw.pick 0 rfl hV) | exact (Vw.pick 1 rfl hV) | exact (Vw.pick 2 rfl hV) | exact (Vw.pick 3 rfl hV) | exact (Vw.pick 4 rfl hV) | exact (Vw.pick 5 rfl hV) | exact (Vw.pick 6 rfl hV) | exact (Vw.pick 7 rfl hV) | exact (Vw.pick 8 rfl hV) | exact (Vw.pick 9 rfl hV) | exact (Vw.pick 0 rfl hx) | exact (Vw.pick 1 rfl hx) | exact (Vw.pick 2 rfl hx) | exact (Vw.pick 3 rfl hx) | exact (Vw.pick 4 rfl hx) | exact (Vw.pick 5 rfl hx) | exact (Vw.pick 6 rfl hx) | exact (Vw.pick 7 rfl hx) | exact (Vw.pick 8 rfl hx) | exact (Vw.pick 9 rfl hx) | exact Vw.pick 0 rfl Vw.row | exact Vw.pick 1 rfl Vw.row | exact Vw.pick 2 rfl Vw.row | exact Vw.pick 3 rfl Vw.row | exact Vw.pick 4 rfl Vw.row | exact Vw.pick 5 rfl Vw.row | exact Vw.pick 6 rfl Vw.row | exact Vw.pick 7 rfl Vw.row | exact Vw.pick 8 rfl Vw.row | exact Vw.pick 9 rfl Vw.row | exact Vw.nil _ | exact Vw.empty _ _) hcp pw pp cp a (by omega) (by omega)) (by have h1 := top_le s; have h2 := hj xs.length; rw [List.take_length] at h2; simp only [mp, joined_c, List.length_append, be_length, List.length_cons, List.length_nil]; omega))) rfl ?_
              rintro _ H' ⟨_, ⟨a2, p1, c1, rfl, ha2, rfl⟩, hH⟩
              simp only [List.cons_append, List.nil_append, List.eraseIdx_cons_zero, List.eraseIdx_cons_succ, List.set_cons_zero, List.set_cons_succ] at hH
              subst hH
              refine ops_nil ?_
              refine Then_normal ?_
              refine wp_seq' ?_
              refine wp_region' ?_
              refine ops_ro' rfl (ro_move rfl) rfl ?_
              refine ops_ro' rfl (ro_fieldAddr fa40_2 rfl) rfl ?_
              refine ops_ro' rfl (ro_load sc9 rfl (Rd.pick 3 rfl (Rd.own rfl))) rfl ?_
              refine ops_eff' rfl (eff_toBytesS Tryd.underlying9 Tryd.underlying28 Tryd.underlying5 rfl (by simp only [maxLen]; omega)) rfl ?_
              rintro _ _ ⟨b77, c77, rfl, rfl⟩
              refine ops_know (fun w F s => row_caps 0 rfl s) ?_
              intro hcp
              refine ops_eff' rfl (eff_callM (Pre := []) Tryd.call71 rfl rfl (Split.nil _) (qwMpint p c l (by first | exact (Vw.pick 0 rfl hV) | exact (Vw.pick 1 rfl hV) | exact (Vw.pick 2 rfl hV) | exact (Vw.pick 3 rfl hV) | exact (Vw.pick 4 rfl hV) | exact (Vw.pick 5 rfl hV) | exact (Vw.pick 6 rfl hV) | exact (Vw.pick 7 rfl hV) | exact (Vw.pick 8 rfl hV) | exact (Vw.pick 9 rfl hV) | exact (Vw.pick 0 rfl hx) | exact (Vw.pick 1 rfl hx) | exact (Vw.pick 2 rfl hx) | exact (Vw.pick 3 rfl hx) | exact (Vw.pick 4 rfl hx) | exact (Vw.pick 5 rfl hx) | exact (Vw.pick 6 rfl hx) | exact (Vw.pick 7 rfl hx) | exact (Vw.pick 8 rfl hx) | exact (Vw.pick 9 rfl hx) | exact Vw.pick 0 rfl Vw.row | exact Vw.pick 1 rfl Vw.row | exact Vw.pick 2 rfl Vw.row | exact Vw.pick 3 rfl Vw.row | exact Vw.pick 4 rfl Vw.row | exact Vw.pick 5 rfl Vw.row | exact Vw.pick 6 rfl Vw.row | exact Vw.pick 7 rfl Vw.row | exact Vw.pick 8 rfl Vw.row | exact Vw.pick 9 rfl Vw.row | exact Vw.nil _ | exact Vw.empty _ _) (by omega) _ _ s (by first | exact (Vw.pick 0 rfl hV) | exact (Vw.pick 1 rfl hV) | exact (Vw.pick 2 rfl hV) | exact (Vw.pick 3 rfl hV) | exact (Vw.pick 4 rfl hV) | exact (Vw.pick 5 rfl hV) | exact (Vw.pick 6 rfl hV) | exact (Vw.pick 7 rfl hV) | exact (Vw.pick 8 rfl hV) | exact (Vw.pick 9 rfl hV) | exact (Vw.pick 0 rfl hx) | exact (Vw.pick 1 rfl hx) | exact (Vw.pick 2 rfl hx) | exact (Vw.pick 3 rfl hx) | exact (Vw.pick 4 rfl hx) | exact (Vw.pick 5 rfl hx) | exact (Vw.pick 6 rfl hx) | exact (Vw.pick 7 rfl hx) | exact (Vw.pick 8 rfl hx) | exact (Vw.pick 9 rfl hx) | exact Vw.pick 0 rfl Vw.row | exact Vw.pick 1 rfl Vw.row | exact Vw.pick 2 rfl Vw.row | exact Vw.pick 3 rfl Vw.row | exact Vw.pick 4 rfl Vw.row | exact Vw.pick 5 rfl Vw.row | exact Vw.pick 6 rfl Vw.row | exact Vw.pick 7 rfl Vw.row | exact Vw.pick 8 rfl Vw.row | exact Vw.pick 9 rfl Vw.row | exact Vw.nil _ | exact Vw.empty _ _) hcp (by omega))) rfl ?_
              rintro _ H' ⟨_, ⟨p2, c2, rfl, rfl⟩, hH⟩
              simp only [List.cons_append, List.nil_append, List.eraseIdx_cons_zero, List.eraseIdx_cons_succ, List.set_cons_zero, List.set_cons_succ] at hH
              subst hH
              refine ops_ro' rfl (ro_assign rfl) rfl ?_
              refine ops_nil ?_
              refine Then_normal ?_
              refine wp_ret' ?_
              refine InBlock_ret ?_
              refine Then_ret ?_
              refine' doneS_ret (res1 rfl rfl) ?_ ?_
              rotate_left 1
              refine ⟨_, ⟨_, a2, p1, c1, _, _, rfl, ?_, ha2, rfl⟩, rfl⟩
              have h1 := top_le s
              have h2 := hj xs.length
              rw [List.take_length] at h2
              try simp only [mp, joined_c, List.length_append, be_length, List.length_cons, List.length_nil]
              omega
              exact (SubH.cons 2 rfl (SubH.cons 2 rfl (SubH.cons 0 rfl (SubH.cons 3 rfl (SubH.nil _)))))
            · replace hc67 := of_decide_eq_false hc67
              dsimp only at hc67
              refine wp_seq' ?_
              refine wp_region' ?_
              refine ops_ro' rfl (ro_eql rfl rfl rfl) rfl ?_
              refine ops_ro' rfl (ro_assign rfl) rfl ?_
              refine ops_nil ?_
              refine Then_normal ?_
              refine wp_cond' rfl (fun hc79 => ?_) (fun hc79 => ?_)
              · replace hc79 := of_decide_eq_true hc79
                dsimp only at hc79
                refine wp_seq' ?_
                refine wp_region' ?_
                refine ops_ro' rfl (ro_move rfl) rfl ?_
                refine ops_ro' rfl (ro_fieldAddr fa40_3 rfl) rfl ?_
                refine ops_ro' rfl (ro_load sc30 rfl (Rd.pick 0 rfl (Rd.own rfl))) rfl ?_
                refine ops_eff' rfl (eff_callM (Pre := [_, _]) Tryd.call22 rfl rfl (by repeat (first | exact Split.nil _ | apply Split.cons 0 rfl | apply Split.cons 1 rfl | apply Split.cons 2 rfl | apply Split.cons 3 rfl | apply Split.cons 4 rfl | apply Split.cons 5 rfl | apply Split.cons 6 rfl | apply Split.cons 7 rfl | apply Split.cons 8 rfl | apply Split.cons 9 rfl | apply Split.cons 10 rfl | apply Split.cons 11 rfl)) (tri_wV (names_spec _ q cq xs (by rw [← txs_map]; exact (by first | exact (Vw.pick 0 rfl hV) | exact (Vw.pick 1 rfl hV) | exact (Vw.pick 2 rfl hV) | exact (Vw.pick 3 rfl hV) | exact (Vw.pick 4 rfl hV) | exact (Vw.pick 5 rfl hV) | exact (Vw.pick 6 rfl hV) | exact (Vw.pick 7 rfl hV) | exact (Vw.pick 8 rfl hV) | exact (Vw.pick 9 rfl hV) | exact (Vw.pick 0 rfl hx) | exact (Vw.pick 1 rfl hx) | exact (Vw.pick 2 rfl hx) | exact (Vw.pick 3 rfl hx) | exact (Vw.pick 4 rfl hx) | exact (Vw.pick 5 rfl hx) | exact (Vw.pick 6 rfl hx) | exact (Vw.pick 7 rfl hx) | exact (Vw.pick 8 rfl hx) | exact (Vw.pick 9 rfl hx) | exact Vw.pick 0 rfl Vw.row | exact Vw.pick 1 rfl Vw.row | exact Vw.pick 2 rfl Vw.row | exact Vw.pick 3 rfl Vw.row | exact Vw.pick 4 rfl Vw.row | exact Vw.pick 5 rfl Vw.row | exact Vw.pick 6 rfl Vw.row | exact Vw.pick 7 rfl Vw.row | exact Vw.pick 8 rfl Vw.row | exact Vw.pick 9 rfl Vw.row | exact Vw.nil _ | exact Vw.empty _ _)) hcq (by omega) (by rw [joined_c]; have := hj xs.length; rw [List.take_length] at this; omega) pw pp cp a (by omega)) (by have h1 := top_le s; have h2 := hj xs.length; rw [List.take_length] at h2; simp only [mp, joined_c, List.length_append, be_length, List.length_cons, List.length_nil]; omega))) rfl ?_
                rintro _ H' ⟨_, ⟨a2, p1, c1, rfl, ha2, rfl⟩, hH⟩
                simp only [List.cons_append, List.nil_append, List.eraseIdx_cons_zero, List.eraseIdx_cons_succ, List.set_cons_zero, List.set_cons_succ] at hH
                subst hH
                refine ops_nil ?_
                refine Then_normal ?_
                refine wp_seq' ?_
                refine wp_region' ?_
                refine ops_ro' rfl (ro_move rfl) rfl ?_
                refine ops_ro' rfl (ro_fieldAddr fa40_3 rfl) rfl ?_
                refine ops_ro' rfl (ro_load sc30 rfl (Rd.pick 2 rfl (Rd.own rfl))) rfl ?_
                refine ops_eff' rfl (eff_callM (Pre := []) Tryd.call72 rfl rfl (Split.nil _) (qwNames p c l (by first | exact (Vw.pick 0 rfl hV) | exact (Vw.pick 1 rfl hV) | exact (Vw.pick 2 rfl hV) | exact (Vw.pick 3 rfl hV) | exact (Vw.pick 4 rfl hV) | exact (Vw.pick 5 rfl hV) | exact (Vw.pick 6 rfl hV) | exact (Vw.pick 7 rfl hV) | exact (Vw.pick 8 rfl hV) | exact (Vw.pick 9 rfl hV) | exact (Vw.pick 0 rfl hx) | exact (Vw.pick 1 rfl hx) | exact (Vw.pick 2 rfl hx) | exact (Vw.pick 3 rfl hx) | exact (Vw.pick 4 rfl hx) | exact (Vw.pick 5 rfl hx) | exact (Vw.pick 6 rfl hx) | exact (Vw.pick 7 rfl hx) | exact (Vw.pick 8 rfl hx) | exact (Vw.pick 9 rfl hx) | exact Vw.pick 0 rfl Vw.row | exact Vw.pick 1 rfl Vw.row | exact Vw.pick 2 rfl Vw.row | exact Vw.pick 3 rfl Vw.row | exact Vw.pick 4 rfl Vw.row | exact Vw.pick 5 rfl Vw.row | exact Vw.pick 6 rfl Vw.row | exact Vw.pick 7 rfl Vw.row | exact Vw.pick 8 rfl Vw.row | exact Vw.pick 9 rfl Vw.row | exact Vw.nil _ | exact Vw.empty _ _) (by omega) (by omega) q cq xs (by first | exact (Vw.pick 0 rfl hV) | exact (Vw.pick 1 rfl hV) | exact (Vw.pick 2 rfl hV) | exact (Vw.pick 3 rfl hV) | exact (Vw.pick 4 rfl hV) | exact (Vw.pick 5 rfl hV) | exact (Vw.pick 6 rfl hV) | exact (Vw.pick 7 rfl hV) | exact (Vw.pick 8 rfl hV) | exact (Vw.pick 9 rfl hV) | exact (Vw.pick 0 rfl hx) | exact (Vw.pick 1 rfl hx) | exact (Vw.pick 2 rfl hx) | exact (Vw.pick 3 rfl hx) | exact (Vw.pick 4 rfl hx) | exact (Vw.pick 5 rfl hx) | exact (Vw.pick 6 rfl hx) | exact (Vw.pick 7 rfl hx) | exact (Vw.pick 8 rfl hx) | exact (Vw.pick 9 rfl hx) | exact Vw.pick 0 rfl Vw.row | exact Vw.pick 1 rfl Vw.row | exact Vw.pick 2 rfl Vw.row | exact Vw.pick 3 rfl Vw.row | exact Vw.pick 4 rfl Vw.row | exact Vw.pick 5 rfl Vw.row | exact Vw.pick 6 rfl Vw.row | exact Vw.pick 7 rfl Vw.row | exact Vw.pick 8 rfl Vw.row | exact Vw.pick 9 rfl Vw.row | exact Vw.nil _ | exact Vw.empty _ _) (by omega) (fun i => Nat.le_trans (hj i) (by decide)) (fun y hy => Nat.le_trans (hxx y hy) (by decide)))) rfl ?_
                rintro _ H' ⟨_, ⟨p2, c2, rfl, rfl⟩, hH⟩
                simp only [List.cons_append, List.nil_append, List.eraseIdx_cons_zero, List.eraseIdx_cons_succ, List.set_cons_zero, List.set_cons_succ] at hH
                subst hH
                rw [List.append_assoc]
                refine ops_ro' rfl (ro_assign rfl) rfl ?_
                refine ops_nil ?_
                refine Then_normal ?_
                refine wp_ret' ?_
                refine InBlock_ret ?_
                refine Then_ret ?_
                refine' doneS_ret (res1 rfl rfl) ?_ ?_
                rotate_left 1
                refine ⟨_, ⟨_, a2, p1, c1, _, _, rfl, ?_, ha2, rfl⟩, rfl⟩
                have h1 := top_le s
                have h2 := hj xs.length
                rw [List.take_length] at h2
                try simp only [mp, joined_c, List.length_append, be_length, List.length_cons, List.length_nil]
                omega
                exact (SubH.cons 1 rfl (SubH.cons 1 rfl (SubH.cons 0 rfl (SubH.cons 1 rfl (SubH.nil _)))))
              · replace hc79 := of_decide_eq_false hc79
                dsimp only at hc79
                refine wp_skip' ?_
                refine InBlock_normal ?_
                refine Then_normal ?_
                refine wp_seq' ?_
                refine wp_region' ?_
                refine ops_ro' rfl (ro_move rfl) rfl ?_
                refine ops_ro' rfl (ro_fieldAddr fa40_2 rfl) rfl ?_
                refine ops_ro' rfl (ro_load sc9 rfl (Rd.pick 0 rfl (Rd.own rfl))) rfl ?_
                refine ops_eff' rfl (eff_toBytesS Tryd.underlying9 Tryd.underlying28 Tryd.underlying5 rfl (by simp only [maxLen]; omega)) rfl ?_
                rintro _ _ ⟨b92, c92, rfl, rfl⟩
                refine ops_eff' rfl (eff_callM (Pre := [_, _]) Tryd.call24 rfl rfl (by repeat (first | exact Split.nil _ | apply Split.cons 0 rfl | apply Split.cons 1 rfl | apply Split.cons 2 rfl | apply Split.cons 3 rfl | apply Split.cons 4 rfl | apply Split.cons 5 rfl | apply Split.cons 6 rfl | apply Split.cons 7 rfl | apply Split.cons 8 rfl | apply Split.cons 9 rfl | apply Split.cons 10 rfl | apply Split.cons 11 rfl)) (tri_wV (wraw_spec _ _ _ s (by first | exact (Vw.pick 0 rfl hV) | exact (Vw.pick 1 rfl hV) | exact (Vw.pick 2 rfl hV) | exact (Vw.pick 3 rfl hV) | exact (Vw.pick 4 rfl hV) | exact (Vw.pick 5 rfl hV) | exact (Vw.pick 6 rfl hV) | exact (Vw.pick 7 rfl hV) | exact (Vw.pick 8 rfl hV) | exact (Vw.pick 9 rfl hV) | exact (Vw.pick 0 rfl hx) | exact (Vw.pick 1 rfl hx) | exact (Vw.pick 2 rfl hx) | exact (Vw.pick 3 rfl hx) | exact (Vw.pick 4 rfl hx) | exact (Vw.pick 5 rfl hx) | exact (Vw.pick 6 rfl hx) | exact (Vw.pick 7 rfl hx) | exact (Vw.pick 8 rfl hx) | exact (Vw.pick 9 rfl hx) | exact Vw.pick 0 rfl Vw.row | exact Vw.pick 1 rfl Vw.row | exact Vw.pick 2 rfl Vw.row | exact Vw.pick 3 rfl Vw.row | exact Vw.pick 4 rfl Vw.row | exact Vw.pick 5 rfl Vw.row | exact Vw.pick 6 rfl Vw.row | exact Vw.pick 7 rfl Vw.row | exact Vw.pick 8 rfl Vw.row | exact Vw.pick 9 rfl Vw.row | exact Vw.nil _ | exact Vw.empty _ _) pw pp cp a (by omega) (by omega)) (by have h1 := top_le s; have h2 := hj xs.length; rw [List.take_length] at h2; simp only [mp, joined_c, List.length_append, be_length, List.length_cons, List.length_nil]; omega))) rfl ?_
                rintro _ H' ⟨_, ⟨a2, p1, c1, rfl, ha2, rfl⟩, hH⟩
                simp only [List.cons_append, List.nil_append, List.eraseIdx_cons_zero, List.eraseIdx_cons_succ, List.set_cons_zero, List.set_cons_succ] at hH
                subst hH
                refine ops_nil ?_
                refine Then_normal ?_
                refine wp_seq' ?_
                refine wp_draw 6 (by kernel_rfl) (Split.cons 3 rfl (Split.nil _)) ?_
                refine any_ro' (i := 1) (by kernel_rfl) rfl rfl (ro_move rfl) rfl (fun _ _ _ h => h) ?_
                refine any_ro' (i := 3) (by kernel_rfl) rfl rfl (ro_fieldAddr fa40_2 rfl) rfl (fun _ _ _ h => h) ?_
                refine any_ro' (i := 4) (by kernel_rfl) rfl rfl (ro_load sc9 rfl (Rd.pick 0 rfl (Rd.own rfl))) rfl (fun _ _ _ h => h) ?_
                refine any_eff' (i := 0) (by kernel_rfl) rfl rfl (eff_lit sl28 rfl (sbld (cs := []) [] sl28 (by decide) (by kernel_rfl) rfl) rfl (by decide)) rfl ?_
                rintro _ _ ⟨b94, rfl, rfl⟩
                refine any_eff' (i := 2) (by kernel_rfl) rfl rfl (eff_appB (l := []) (l2 := l) 0 sl28 (.inl ⟨5, Tryd.underlying28⟩) rfl rfl rfl (by first | exact Src.strl | exact Src.celv (Vw.pick 0 rfl hV) | exact Src.celv (Vw.pick 1 rfl hV) | exact Src.celv (Vw.pick 2 rfl hV) | exact Src.celv (Vw.pick 3 rfl hV) | exact Src.celv (Vw.pick 4 rfl hV) | exact Src.celv (Vw.pick 5 rfl hV) | exact Src.celv (Vw.pick 6 rfl hV) | exact Src.celv (Vw.pick 7 rfl hV) | exact Src.celv (Vw.pick 8 rfl hV) | exact Src.celv (Vw.pick 9 rfl hV) | exact Src.celv (Vw.pick 0 rfl hx) | exact Src.celv (Vw.pick 1 rfl hx) | exact Src.celv (Vw.pick 2 rfl hx) | exact Src.celv (Vw.pick 3 rfl hx) | exact Src.celv (Vw.pick 4 rfl hx) | exact Src.celv (Vw.pick 5 rfl hx) | exact Src.celv (Vw.pick 6 rfl hx) | exact Src.celv (Vw.pick 7 rfl hx) | exact Src.celv (Vw.pick 8 rfl hx) | exact Src.celv (Vw.pick 9 rfl hx) | exact Src.celv (Vw.pick 0 rfl Vw.row) | exact Src.celv (Vw.pick 1 rfl Vw.row) | exact Src.celv (Vw.pick 2 rfl Vw.row) | exact Src.celv (Vw.pick 3 rfl Vw.row) | exact Src.celv (Vw.pick 4 rfl Vw.row) | exact Src.celv (Vw.pick 5 rfl Vw.row) | exact Src.celv (Vw.pick 6 rfl Vw.row) | exact Src.celv (Vw.pick 7 rfl Vw.row) | exact Src.celv (Vw.pick 8 rfl Vw.row) | exact Src.celv (Vw.pick 9 rfl Vw.row)) (by first | omega | (simp only [List.length_append, List.length_cons, List.length_nil, List.length_take, List.length_drop] at *; omega))) rfl ?_
                rintro _ _ ⟨p96, c96, rfl, hn96, rfl⟩
                simp only [List.set_cons_zero, List.set_cons_succ, List.nil_append]
                refine any_eff' (i := 5) (by kernel_rfl) rfl rfl (eff_appB (l2 := s) 0 sl28 (.inr Tryd.underlying9) rfl rfl rfl (by first | exact Src.strl | exact Src.celv (Vw.pick 0 rfl hV) | exact Src.celv (Vw.pick 1 rfl hV) | exact Src.celv (Vw.pick 2 rfl hV) | exact Src.celv (Vw.pick 3 rfl hV) | exact Src.celv (Vw.pick 4 rfl hV) | exact Src.celv (Vw.pick 5 rfl hV) | exact Src.celv (Vw.pick 6 rfl hV) | exact Src.celv (Vw.pick 7 rfl hV) | exact Src.celv (Vw.pick 8 rfl hV) | exact Src.celv (Vw.pick 9 rfl hV) | exact Src.celv (Vw.pick 0 rfl hx) | exact Src.celv (Vw.pick 1 rfl hx) | exact Src.celv (Vw.pick 2 rfl hx) | exact Src.celv (Vw.pick 3 rfl hx) | exact Src.celv (Vw.pick 4 rfl hx) | exact Src.celv (Vw.pick 5 rfl hx) | exact Src.celv (Vw.pick 6 rfl hx) | exact Src.celv (Vw.pick 7 rfl hx) | exact Src.celv (Vw.pick 8 rfl hx) | exact Src.celv (Vw.pick 9 rfl hx) | exact Src.celv (Vw.pick 0 rfl Vw.row) | exact Src.celv (Vw.pick 1 rfl Vw.row) | exact Src.celv (Vw.pick 2 rfl Vw.row) | exact Src.celv (Vw.pick 3 rfl Vw.row) | exact Src.celv (Vw.pick 4 rfl Vw.row) | exact Src.celv (Vw.pick 5 rfl Vw.row) | exact Src.celv (Vw.pick 6 rfl Vw.row) | exact Src.celv (Vw.pick 7 rfl Vw.row) | exact Src.celv (Vw.pick 8 rfl Vw.row) | exact Src.celv (Vw.pick 9 rfl Vw.row)) (by first | omega | (simp only [List.length_append, List.length_cons, List.length_nil, List.length_take, List.length_drop] at *; omega))) rfl ?_
                rintro _ _ ⟨p99, c99, rfl, hn99, rfl⟩
                simp only [List.set_cons_zero, List.set_cons_succ]
                refine any_unlock (m' := 7) (L' := []) (by kernel_rfl) unlock ?_
                simp only [List.cons_append, List.nil_append, List.append_nil]
                refine any_ro' (i := 6) (by kernel_rfl) rfl rfl (ro_assign rfl) rfl (fun _ _ _ h => h) ?_
                refine any_doneH (by kernel_rfl) ?_
                refine Then_normal ?_
                refine wp_ret' ?_
                refine' doneS_ret (res1 rfl rfl) ?_ ?_
                rotate_left 1
                refine ⟨_, ⟨_, a2, p1, c1, _, _, rfl, ?_, ha2, rfl⟩, rfl⟩
                have h1 := top_le s
                have h2 := hj xs.length
                rw [List.take_length] at h2
                try simp only [mp, joined_c, List.length_append, be_length, List.length_cons, List.length_nil]
                omega
                exact (SubH.cons 2 rfl (SubH.cons 2 rfl (SubH.cons 1 rfl (SubH.cons 2 rfl (SubH.nil _)))))

end Go.Proofs.YtbiohhfibkolgaaDoor
