/-
  Lists of texts: held against one another, cut short.
-/
import Derived.Test.YtbiohhfibkolgaaDoorSxStr
import Derived.Test.YtbiohhfibkolgaaDoorTy
import WalkDev
namespace Go.Proofs.YtbiohhfibkolgaaDoor
open Go.Sx
set_option linter.unusedVariables false
set_option linter.unusedSimpArgs false
set_option maxRecDepth 100000
set_option maxHeartbeats 4000000

theorem ktexts_spec (V : HProp) (a b : List (List UInt8)) (p1 p2 : Option Addr) (c1 c2 : Nat) (h1 : Vw V (.slice p1 a.length c1) a.length (txs a)) (h2 : Vw V (.slice p2 b.length c2) b.length (txs b)) (hl : a.length ≤ 140737488355328) :
    Tri Tryd.prog 30 [.slice p1 a.length c1, .slice p2 b.length c2] [V] (fun v H' => ∃ K, (v = .bool (decide (a = b)) ∧ K = []) ∧ H' = K ++ [V]) := by
  walk "Ytbiohktexts"


theorem kHead (l : List UInt8) (n : Nat) : Tri Tryd.prog 8 [.string (str l), .int .i64 n] [] (fun v H' => v = .string (str (l.take n)) ∧ H' = []) := by
  refine tri_of_wpS Tryd.func8 rfl Tryd.ntmps8 (by simp) ?_
  refine wp_seq' ?_
  refine wp_region' ?_
  refine ops_ro' rfl (ro_assign rfl) rfl ?_
  refine ops_nil ?_
  refine Then_normal ?_
  refine wp_seq' ?_
  refine wp_seq' ?_
  refine wp_region' ?_
  refine ops_ro' rfl (ro_move rfl) rfl ?_
  refine ops_ro' rfl (ro_lenS (t' := 0) Tryd.underlying9 rfl) rfl ?_
  refine ops_ro' rfl (ro_move rfl) rfl ?_
  refine ops_ro' rfl (ro_gtr rfl rfl rfl) rfl ?_
  refine ops_nil ?_
  refine Then_normal ?_
  refine wp_cond' rfl (fun hc8 => ?_) (fun hc8 => ?_)
  · replace hc8 := of_decide_eq_true hc8
    refine wp_seq' ?_
    refine wp_region' ?_
    refine ops_ro' rfl (ro_move rfl) rfl ?_
    refine ops_ro' rfl (ro_move rfl) rfl ?_
    refine ops_ro' rfl (ro_sliceS Tryd.underlying9 rfl rfl (bnd_of rfl rfl) (by omega) (by omega)) rfl ?_
    refine ops_ro' rfl (ro_assign rfl) rfl ?_
    refine ops_nil ?_
    refine Then_normal ?_
    refine wp_ret' ?_
    refine Then_ret ?_
    refine' doneS_ret (res1 rfl rfl) ?_ ?_
    rotate_left 1
    exact ⟨by simp, rfl⟩
    exact SubH.refl _
  · replace hc8 := of_decide_eq_false hc8
    refine wp_skip' ?_
    refine Then_normal ?_
    refine wp_seq' ?_
    refine wp_region' ?_
    refine ops_ro' rfl (ro_move rfl) rfl ?_
    refine ops_ro' rfl (ro_assign rfl) rfl ?_
    refine ops_nil ?_
    refine Then_normal ?_
    refine wp_ret' ?_
    refine' doneS_ret (res1 rfl rfl) ?_ ?_
    rotate_left 1
    exact ⟨by rw [List.take_of_length_le (by omega)], rfl⟩
    exact SubH.refl _


theorem kCut (V : HProp) (p : Option Addr) (c : Nat) (l : List UInt8) (n : Nat) (hV : Vw V (.slice p l.length c) l.length (cel l)) (hc : l.length ≤ c) :
    Tri Tryd.prog 37 [.slice p l.length c, .int .i64 n] [V] (fun v H' => ∃ K, (∃ p' c', v = .slice p' (l.take n).length c' ∧ Vw V (.slice p' (l.take n).length c') (l.take n).length (cel (l.take n)) ∧ (l.take n).length ≤ c' ∧ K = []) ∧ H' = K ++ [V]) := by
  refine tri_of_wpS Tryd.func37 rfl Tryd.ntmps37 (by simp) ?_
  refine wp_seq' ?_
  refine wp_region' ?_
  refine ops_ro' rfl (ro_assign rfl) rfl ?_
  refine ops_nil ?_
  refine Then_normal ?_
  refine wp_seq' ?_
  refine wp_seq' ?_
  refine wp_region' ?_
  refine ops_ro' rfl (ro_move rfl) rfl ?_
  refine ops_ro' rfl (ro_sliceLen Tryd.underlying28 rfl) rfl ?_
  refine ops_ro' rfl (ro_move rfl) rfl ?_
  refine ops_ro' rfl (ro_gtr rfl rfl rfl) rfl ?_
  refine ops_nil ?_
  refine Then_normal ?_
  refine wp_cond' rfl (fun hc8 => ?_) (fun hc8 => ?_)
  · replace hc8 := of_decide_eq_true hc8
    refine wp_seq' ?_
    refine wp_region' ?_
    refine ops_ro' rfl (ro_move rfl) rfl ?_
    refine ops_ro' rfl (ro_move rfl) rfl ?_
    refine ops_eff' rfl (eff_sliceB 0 rfl sl28 rfl (hV) rfl (bnd_of rfl rfl) (by omega) (by omega) hc) rfl ?_
    rintro _ _ ⟨p11, rfl, hv11, hn11, rfl⟩
    refine ops_ro' rfl (ro_assign rfl) rfl ?_
    refine ops_nil ?_
    refine Then_normal ?_
    refine wp_ret' ?_
    refine Then_ret ?_
    refine' doneS_ret (res1 rfl rfl) ?_ ?_
    rotate_left 1
    exact ⟨_, ⟨p11, c, rfl, by simpa [St_cons, St_nil, star_emp] using hv11, by simp; omega, rfl⟩, rfl⟩
    exact SubH.refl _
  · replace hc8 := of_decide_eq_false hc8
    refine wp_skip' ?_
    refine Then_normal ?_
    refine wp_seq' ?_
    refine wp_region' ?_
    refine ops_ro' rfl (ro_move rfl) rfl ?_
    refine ops_ro' rfl (ro_assign rfl) rfl ?_
    refine ops_nil ?_
    refine Then_normal ?_
    refine wp_ret' ?_
    refine' doneS_ret (res1 rfl rfl) ?_ ?_
    rotate_left 1
    exact ⟨_, ⟨p, c, by rw [List.take_of_length_le (by omega)], by rw [List.take_of_length_le (by omega)]; exact hV, by rw [List.take_of_length_le (by omega)]; exact hc, rfl⟩, rfl⟩
    exact SubH.refl _


def few2 (l : List (List UInt8)) (most : Nat) : List (List UInt8) := l.map fun x => x.take most
theorem few2_succ {xs : List (List UInt8)} {i most : Nat} (hi : i < xs.length) : few2 (xs.take (i + 1)) most = few2 (xs.take i) most ++ [xs[i].take most] := by
  rw [few2, few2, List.take_succ_eq_append_getElem hi, List.map_append]; rfl
theorem kFew (V : HProp) (q : Option Addr) (cq : Nat) (xs : List (List UInt8)) (hV : Vw V (.slice q xs.length cq) xs.length (txs xs)) (n most : Nat) (hn : n ≤ 1000) (hx : xs.length ≤ 140737488355328) :
    Tri Tryd.prog 48 [.slice q xs.length cq, .int .i64 n, .int .i64 most] [V] (fun v H' => ∃ K, (∃ p c, v = .slice p (few2 (xs.take n) most).length c ∧ K = [row 9 1 (.slice p (few2 (xs.take n) most).length c) (few2 (xs.take n) most).length (txs (few2 (xs.take n) most))]) ∧ H' = K ++ [V]) := by
  walk "YtbiohkFew"


/-- may it be a name? -/
def nmB (b : UInt8) : Bool := decide (33 ≤ b.toNat) && decide (b.toNat ≤ 126) && decide (b.toNat ≠ 44)
def nmOk (s : List UInt8) : Bool := s.all nmB && decide (s ≠ []) && decide (s.length ≤ 64)
theorem nmB_at {s : List UInt8} {i : Nat} (hi : i < s.length) (h : s.all nmB = true) : 33 ≤ s[i].toNat ∧ s[i].toNat ≤ 126 ∧ s[i].toNat ≠ 44 := by
  have := List.all_eq_true.1 h s[i] (List.getElem_mem hi)
  simp only [nmB, Bool.and_eq_true, decide_eq_true_eq] at this
  exact ⟨this.1.1, this.1.2, this.2⟩
theorem nmOk_no {s : List UInt8} {i : Nat} (hi : i < s.length) (h : s[i].toNat < 33 ∨ 126 < s[i].toNat ∨ s[i].toNat = 44) : nmOk s = false := by
  cases hh : nmOk s with
  | false => rfl
  | true =>
    unfold nmOk at hh
    simp only [Bool.and_eq_true] at hh
    have := nmB_at hi hh.1.1
    omega
theorem nmOk_all {s : List UInt8} (h : s.all nmB = true) : nmOk s = (decide (s ≠ []) && decide (s.length ≤ 64)) := by unfold nmOk; rw [h]; simp
theorem nmOk_fin {s : List UInt8} (h : s.all nmB = true) (h1 : s ≠ []) : nmOk s = decide (((s.length : Nat) : Int) ≤ 64) := by rw [nmOk_all h, decide_eq_true h1, Bool.true_and]; exact decide_eq_decide.2 (by omega)
theorem nmOk_nil : nmOk [] = false := rfl
theorem len_pos {s : List UInt8} : (1 ≤ s.length) ↔ s ≠ [] := by cases s <;> simp


theorem wName_spec (s : List UInt8) (hs : s.length ≤ 9223372036854775806) : Tri Tryd.prog 46 [.string (str s)] [] (fun v H' => v = .bool (nmOk s) ∧ H' = []) := by
  walk "YtbiohwName"


theorem rRight_spec (s : List UInt8) (hs : s.length ≤ 9223372036854775806) : Tri Tryd.prog 17 [.string (str s)] [] (fun v H' => v = .bool (nmOk s) ∧ H' = []) := by
  walk "YtbiohrRight"

end Go.Proofs.YtbiohhfibkolgaaDoor
