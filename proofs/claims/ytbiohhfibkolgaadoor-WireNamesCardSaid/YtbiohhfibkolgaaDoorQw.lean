/-
  The writers of package strongroomref1.
-/
import Derived.Test.YtbiohhfibkolgaaDoorRef1
import Derived.Test.YtbiohhfibkolgaaDoorTxt
import Derived.Test.YtbiohhfibkolgaaDoorWire2
import Derived.Test.YtbiohhfibkolgaaDoorParts
import WalkDev
namespace Go.Proofs.YtbiohhfibkolgaaDoor
open Go.Sx
set_option linter.unusedVariables false
set_option linter.unusedSimpArgs false
set_option maxRecDepth 100000
set_option maxHeartbeats 4000000

theorem qwU32 {V : HProp} (p : Option Addr) (c : Nat) (l : List UInt8) (hV : Vw V (.slice p l.length c) l.length (cel l)) (hl : l.length ≤ 140737488355324) (n : Nat) : Tri Tryd.prog 68 [.slice p l.length c, .int .u32 n] [V] (fun v H' => ∃ K, (∃ p' c', v = .slice p' (l ++ be n 4).length c' ∧ K = [row 5 1 (.slice p' (l ++ be n 4).length c') (l ++ be n 4).length (cel (l ++ be n 4))]) ∧ H' = K ++ [V]) := by
  refine tri_of_wpS Tryd.func68 rfl Tryd.ntmps68 (by simp) ?_
  refine wp_seq' ?_
  refine wp_region' ?_
  refine ops_ro' rfl (ro_assign rfl) rfl ?_
  refine ops_nil ?_
  refine Then_normal ?_
  refine wp_seq' ?_
  refine wp_region' ?_
  refine ops_eff' rfl (eff_lit sl28 rfl (sbld (cs := []) [] sl28 (by decide) (by kernel_rfl) rfl) rfl (by decide)) rfl ?_
  rintro _ _ ⟨b5, rfl, rfl⟩
  refine ops_ro' rfl (ro_move rfl) rfl ?_
  refine ops_eff' rfl (eff_appB (l := []) (l2 := l) 0 sl28 (.inl ⟨5, Tryd.underlying28⟩) rfl rfl rfl (by first | exact Src.strl | exact Src.celv (Vw.pick 0 rfl hV) | exact Src.celv (Vw.pick 1 rfl hV) | exact Src.celv (Vw.pick 2 rfl hV) | exact Src.celv (Vw.pick 3 rfl hV) | exact Src.celv (Vw.pick 4 rfl hV) | exact Src.celv (Vw.pick 5 rfl hV) | exact Src.celv (Vw.pick 6 rfl hV) | exact Src.celv (Vw.pick 7 rfl hV) | exact Src.celv (Vw.pick 8 rfl hV) | exact Src.celv (Vw.pick 9 rfl hV) | exact Src.celv (Vw.pick 0 rfl Vw.row) | exact Src.celv (Vw.pick 1 rfl Vw.row) | exact Src.celv (Vw.pick 2 rfl Vw.row) | exact Src.celv (Vw.pick 3 rfl Vw.row) | exact Src.celv (Vw.pick 4 rfl Vw.row) | exact Src.celv (Vw.pick 5 rfl Vw.row) | exact Src.celv (Vw.pick 6 rfl Vw.row) | exact Src.celv (Vw.pick 7 rfl Vw.row) | exact Src.celv (Vw.pick 8 rfl Vw.row) | exact Src.celv (Vw.pick 9 rfl Vw.row)) (by first | omega | (simp only [List.length_append, List.length_cons, List.length_nil, List.length_take, List.length_drop] at *; omega))) rfl ?_
  rintro _ _ ⟨p7, c7, rfl, hn7, rfl⟩
  simp only [List.set_cons_zero, List.set_cons_succ, List.nil_append]
  refine ops_ro' rfl (ro_move rfl) rfl ?_
  refine ops_ro' rfl (ro_shr rfl rfl (by omega) (shr32 n 3 (by omega))) rfl ?_
  refine ops_ro' rfl (ro_conv Tryd.underlying44 Tryd.underlying5 rfl (conv8 _)) rfl ?_
  refine ops_ro' rfl (ro_move rfl) rfl ?_
  refine ops_ro' rfl (ro_shr rfl rfl (by omega) (shr32 n 2 (by omega))) rfl ?_
  refine ops_ro' rfl (ro_conv Tryd.underlying44 Tryd.underlying5 rfl (conv8 _)) rfl ?_
  refine ops_ro' rfl (ro_move rfl) rfl ?_
  refine ops_ro' rfl (ro_shr rfl rfl (by omega) (shr32 n 1 (by omega))) rfl ?_
  refine ops_ro' rfl (ro_conv Tryd.underlying44 Tryd.underlying5 rfl (conv8 _)) rfl ?_
  refine ops_ro' rfl (ro_move rfl) rfl ?_
  refine ops_ro' rfl (ro_conv Tryd.underlying44 Tryd.underlying5 rfl (conv80 n)) rfl ?_
  refine ops_eff' rfl (eff_lit sl28 rfl (sbld (cs := cel (be n 4)) [(.int .u8 0), (.int .u8 0), (.int .u8 0), (.int .u8 0)] sl28 (by decide) (by kernel_rfl) rfl) rfl (by decide)) rfl ?_
  rintro _ _ ⟨b19, rfl, rfl⟩
  refine ops_eff' rfl (eff_appB (l2 := be n 4) 1 sl28 (.inl ⟨5, Tryd.underlying28⟩) rfl rfl rfl (by first | exact Src.strl | exact Src.celv (Vw.pick 0 rfl hV) | exact Src.celv (Vw.pick 1 rfl hV) | exact Src.celv (Vw.pick 2 rfl hV) | exact Src.celv (Vw.pick 3 rfl hV) | exact Src.celv (Vw.pick 4 rfl hV) | exact Src.celv (Vw.pick 5 rfl hV) | exact Src.celv (Vw.pick 6 rfl hV) | exact Src.celv (Vw.pick 7 rfl hV) | exact Src.celv (Vw.pick 8 rfl hV) | exact Src.celv (Vw.pick 9 rfl hV) | exact Src.celv (Vw.pick 0 rfl Vw.row) | exact Src.celv (Vw.pick 1 rfl Vw.row) | exact Src.celv (Vw.pick 2 rfl Vw.row) | exact Src.celv (Vw.pick 3 rfl Vw.row) | exact Src.celv (Vw.pick 4 rfl Vw.row) | exact Src.celv (Vw.pick 5 rfl Vw.row) | exact Src.celv (Vw.pick 6 rfl Vw.row) | exact Src.celv (Vw.pick 7 rfl Vw.row) | exact Src.celv (Vw.pick 8 rfl Vw.row) | exact Src.celv (Vw.pick 9 rfl Vw.row)) (by first | omega | (simp only [List.length_append, be_length, List.length_cons, List.length_nil] at *; omega))) rfl ?_
  rintro _ _ ⟨p20, c20, rfl, hn20, rfl⟩
  simp only [List.set_cons_zero, List.set_cons_succ]
  refine ops_ro' rfl (ro_assign rfl) rfl ?_
  refine ops_nil ?_
  refine Then_normal ?_
  refine wp_ret' ?_
  refine' doneS_ret (res1 rfl rfl) ?_ ?_
  rotate_left 1
  exact ⟨_, ⟨p20, c20, rfl, rfl⟩, rfl⟩
  exact (SubH.cons 1 rfl (SubH.cons 1 rfl (SubH.nil _)))


theorem qwU64 {V : HProp} (p : Option Addr) (c : Nat) (l : List UInt8) (hV : Vw V (.slice p l.length c) l.length (cel l)) (hl : l.length ≤ 140737488355320) (n : Nat) : Tri Tryd.prog 69 [.slice p l.length c, .int .u64 n] [V] (fun v H' => ∃ K, (∃ p' c', v = .slice p' (l ++ be n 8).length c' ∧ K = [row 5 1 (.slice p' (l ++ be n 8).length c') (l ++ be n 8).length (cel (l ++ be n 8))]) ∧ H' = K ++ [V]) := by
  refine tri_of_wpS Tryd.func69 rfl Tryd.ntmps69 (by simp) ?_
  refine wp_seq' ?_
  refine wp_region' ?_
  refine ops_ro' rfl (ro_assign rfl) rfl ?_
  refine ops_nil ?_
  refine Then_normal ?_
  refine wp_seq' ?_
  refine wp_region' ?_
  refine ops_ro' rfl (ro_move rfl) rfl ?_
  refine ops_ro' rfl (ro_move rfl) rfl ?_
  refine ops_ro' rfl (ro_shr rfl rfl (by omega) (shr64 n)) rfl ?_
  refine ops_ro' rfl (ro_conv Tryd.underlying38 Tryd.underlying44 rfl (conv32 _)) rfl ?_
  refine ops_eff' rfl (eff_callM (Pre := []) Tryd.call68 rfl rfl (Split.nil _) (qwU32 _ _ _ (by first | exact (Vw.pick 0 rfl hV) | exact (Vw.pick 1 rfl hV) | exact (Vw.pick 2 rfl hV) | exact (Vw.pick 3 rfl hV) | exact (Vw.pick 4 rfl hV) | exact (Vw.pick 5 rfl hV) | exact (Vw.pick 6 rfl hV) | exact (Vw.pick 7 rfl hV) | exact (Vw.pick 8 rfl hV) | exact (Vw.pick 9 rfl hV) | exact Vw.pick 0 rfl Vw.row | exact Vw.pick 1 rfl Vw.row | exact Vw.pick 2 rfl Vw.row | exact Vw.pick 3 rfl Vw.row | exact Vw.pick 4 rfl Vw.row | exact Vw.pick 5 rfl Vw.row | exact Vw.pick 6 rfl Vw.row | exact Vw.pick 7 rfl Vw.row | exact Vw.pick 8 rfl Vw.row | exact Vw.pick 9 rfl Vw.row | exact Vw.nil _ | exact Vw.empty _ _) (by first | omega | (simp only [List.length_append, be_length, List.length_cons, List.length_nil] at *; omega)) _)) rfl ?_
  rintro _ H' ⟨_, ⟨p9, c9, rfl, rfl⟩, hH⟩
  simp only [List.cons_append, List.nil_append, List.eraseIdx_cons_zero, List.eraseIdx_cons_succ, List.set_cons_zero, List.set_cons_succ] at hH
  subst hH
  refine ops_ro' rfl (ro_move rfl) rfl ?_
  refine ops_ro' rfl (ro_conv Tryd.underlying38 Tryd.underlying44 rfl (conv32 _)) rfl ?_
  refine ops_eff' rfl (eff_callM (Pre := []) Tryd.call68 rfl rfl (Split.nil _) (qwU32 _ _ _ (by first | exact (Vw.pick 0 rfl hV) | exact (Vw.pick 1 rfl hV) | exact (Vw.pick 2 rfl hV) | exact (Vw.pick 3 rfl hV) | exact (Vw.pick 4 rfl hV) | exact (Vw.pick 5 rfl hV) | exact (Vw.pick 6 rfl hV) | exact (Vw.pick 7 rfl hV) | exact (Vw.pick 8 rfl hV) | exact (Vw.pick 9 rfl hV) | exact Vw.pick 0 rfl Vw.row | exact Vw.pick 1 rfl Vw.row | exact Vw.pick 2 rfl Vw.row | exact Vw.pick 3 rfl Vw.row | exact Vw.pick 4 rfl Vw.row | exact Vw.pick 5 rfl Vw.row | exact Vw.pick 6 rfl Vw.row | exact Vw.pick 7 rfl Vw.row | exact Vw.pick 8 rfl Vw.row | exact Vw.pick 9 rfl Vw.row | exact Vw.nil _ | exact Vw.empty _ _) (by first | omega | (simp only [List.length_append, be_length, List.length_cons, List.length_nil] at *; omega)) _)) rfl ?_
  rintro _ H' ⟨_, ⟨p12, c12, rfl, rfl⟩, hH⟩
  simp only [List.cons_append, List.nil_append, List.eraseIdx_cons_zero, List.eraseIdx_cons_succ, List.set_cons_zero, List.set_cons_succ] at hH
  subst hH
  rw [be_mod, be_mod, List.append_assoc, ← be8]
  refine ops_ro' rfl (ro_assign rfl) rfl ?_
  refine ops_nil ?_
  refine Then_normal ?_
  refine wp_ret' ?_
  refine' doneS_ret (res1 rfl rfl) ?_ ?_
  rotate_left 1
  exact ⟨_, ⟨p12, c12, rfl, rfl⟩, rfl⟩
  exact (SubH.cons 0 rfl (SubH.cons 1 rfl (SubH.nil _)))


theorem conv_b8 (i : Int) : IntKind.u8.wrap i = ((b8 i).toNat : Int) := by
  rw [wrap_u8_mod, b8, UInt8.toNat_ofNat']; omega
theorem qwByte {V : HProp} (p : Option Addr) (c : Nat) (l : List UInt8) (hV : Vw V (.slice p l.length c) l.length (cel l)) (hl : l.length ≤ 140737488355327) (i : Int) : Tri Tryd.prog 66 [.slice p l.length c, .int .i64 i] [V] (fun v H' => ∃ K, (∃ p' c', v = .slice p' (l ++ [b8 i]).length c' ∧ K = [row 5 1 (.slice p' (l ++ [b8 i]).length c') (l ++ [b8 i]).length (cel (l ++ [b8 i]))]) ∧ H' = K ++ [V]) := by
  refine tri_of_wpS Tryd.func66 rfl Tryd.ntmps66 (by simp) ?_
  refine wp_seq' ?_
  refine wp_region' ?_
  refine ops_ro' rfl (ro_assign rfl) rfl ?_
  refine ops_nil ?_
  refine Then_normal ?_
  refine wp_seq' ?_
  refine wp_region' ?_
  refine ops_eff' rfl (eff_lit sl28 rfl (sbld (cs := []) [] sl28 (by decide) (by kernel_rfl) rfl) rfl (by decide)) rfl ?_
  rintro _ _ ⟨b5, rfl, rfl⟩
  refine ops_ro' rfl (ro_move rfl) rfl ?_
  refine ops_eff' rfl (eff_appB (l := []) (l2 := l) 0 sl28 (.inl ⟨5, Tryd.underlying28⟩) rfl rfl rfl (by first | exact Src.strl | exact Src.celv (Vw.pick 0 rfl hV) | exact Src.celv (Vw.pick 1 rfl hV) | exact Src.celv (Vw.pick 2 rfl hV) | exact Src.celv (Vw.pick 3 rfl hV) | exact Src.celv (Vw.pick 4 rfl hV) | exact Src.celv (Vw.pick 5 rfl hV) | exact Src.celv (Vw.pick 6 rfl hV) | exact Src.celv (Vw.pick 7 rfl hV) | exact Src.celv (Vw.pick 8 rfl hV) | exact Src.celv (Vw.pick 9 rfl hV) | exact Src.celv (Vw.pick 0 rfl Vw.row) | exact Src.celv (Vw.pick 1 rfl Vw.row) | exact Src.celv (Vw.pick 2 rfl Vw.row) | exact Src.celv (Vw.pick 3 rfl Vw.row) | exact Src.celv (Vw.pick 4 rfl Vw.row) | exact Src.celv (Vw.pick 5 rfl Vw.row) | exact Src.celv (Vw.pick 6 rfl Vw.row) | exact Src.celv (Vw.pick 7 rfl Vw.row) | exact Src.celv (Vw.pick 8 rfl Vw.row) | exact Src.celv (Vw.pick 9 rfl Vw.row)) (by first | omega | (simp only [List.length_append, List.length_cons, List.length_nil, List.length_take, List.length_drop] at *; omega))) rfl ?_
  rintro _ _ ⟨p7, c7, rfl, hn7, rfl⟩
  simp only [List.set_cons_zero, List.set_cons_succ, List.nil_append]
  refine ops_ro' rfl (ro_move rfl) rfl ?_
  refine ops_ro' rfl (ro_conv Tryd.underlying3 Tryd.underlying5 rfl (conv_b8 i)) rfl ?_
  refine ops_eff' rfl (eff_lit sl28 rfl (sbld (cs := cel [b8 i]) [(.int .u8 0)] sl28 (by decide) (by kernel_rfl) rfl) rfl (by decide)) rfl ?_
  rintro _ _ ⟨b10, rfl, rfl⟩
  refine ops_eff' rfl (eff_appB (l2 := [b8 i]) 1 sl28 (.inl ⟨5, Tryd.underlying28⟩) rfl rfl rfl (by first | exact Src.strl | exact Src.celv (Vw.pick 0 rfl hV) | exact Src.celv (Vw.pick 1 rfl hV) | exact Src.celv (Vw.pick 2 rfl hV) | exact Src.celv (Vw.pick 3 rfl hV) | exact Src.celv (Vw.pick 4 rfl hV) | exact Src.celv (Vw.pick 5 rfl hV) | exact Src.celv (Vw.pick 6 rfl hV) | exact Src.celv (Vw.pick 7 rfl hV) | exact Src.celv (Vw.pick 8 rfl hV) | exact Src.celv (Vw.pick 9 rfl hV) | exact Src.celv (Vw.pick 0 rfl Vw.row) | exact Src.celv (Vw.pick 1 rfl Vw.row) | exact Src.celv (Vw.pick 2 rfl Vw.row) | exact Src.celv (Vw.pick 3 rfl Vw.row) | exact Src.celv (Vw.pick 4 rfl Vw.row) | exact Src.celv (Vw.pick 5 rfl Vw.row) | exact Src.celv (Vw.pick 6 rfl Vw.row) | exact Src.celv (Vw.pick 7 rfl Vw.row) | exact Src.celv (Vw.pick 8 rfl Vw.row) | exact Src.celv (Vw.pick 9 rfl Vw.row)) (by first | omega | (simp only [List.length_append, be_length, List.length_cons, List.length_nil] at *; omega))) rfl ?_
  rintro _ _ ⟨p11, c11, rfl, hn11, rfl⟩
  simp only [List.set_cons_zero, List.set_cons_succ]
  refine ops_ro' rfl (ro_assign rfl) rfl ?_
  refine ops_nil ?_
  refine Then_normal ?_
  refine wp_ret' ?_
  refine' doneS_ret (res1 rfl rfl) ?_ ?_
  rotate_left 1
  exact ⟨_, ⟨p11, c11, rfl, rfl⟩, rfl⟩
  exact (SubH.cons 1 rfl (SubH.cons 1 rfl (SubH.nil _)))


theorem qwBool {V : HProp} (p : Option Addr) (c : Nat) (l : List UInt8) (hV : Vw V (.slice p l.length c) l.length (cel l)) (hl : l.length ≤ 140737488355327) (b : Bool) : Tri Tryd.prog 67 [.slice p l.length c, .bool b] [V] (fun v H' => ∃ K, (∃ p' c', v = .slice p' (l ++ [b8 (if b then 1 else 0)]).length c' ∧ K = [row 5 1 (.slice p' (l ++ [b8 (if b then 1 else 0)]).length c') (l ++ [b8 (if b then 1 else 0)]).length (cel (l ++ [b8 (if b then 1 else 0)]))]) ∧ H' = K ++ [V]) := by
  refine tri_of_wpS Tryd.func67 rfl Tryd.ntmps67 (by simp) ?_
  refine wp_seq' ?_
  refine wp_region' ?_
  refine ops_ro' rfl (ro_assign rfl) rfl ?_
  refine ops_nil ?_
  refine Then_normal ?_
  refine wp_seq' ?_
  refine wp_seq' ?_
  refine wp_region' ?_
  refine ops_ro' rfl (ro_move rfl) rfl ?_
  refine ops_nil ?_
  refine Then_normal ?_
  refine wp_cond' rfl (fun hc5 => ?_) (fun hc5 => ?_)
  · skip
    subst hc5
    refine wp_seq' ?_
    refine wp_region' ?_
    refine ops_ro' rfl (ro_move rfl) rfl ?_
    refine ops_eff' rfl (eff_callM (Pre := []) Tryd.call66 rfl rfl (Split.nil _) (qwByte _ _ _ (by first | exact (Vw.pick 0 rfl hV) | exact (Vw.pick 1 rfl hV) | exact (Vw.pick 2 rfl hV) | exact (Vw.pick 3 rfl hV) | exact (Vw.pick 4 rfl hV) | exact (Vw.pick 5 rfl hV) | exact (Vw.pick 6 rfl hV) | exact (Vw.pick 7 rfl hV) | exact (Vw.pick 8 rfl hV) | exact (Vw.pick 9 rfl hV) | exact Vw.pick 0 rfl Vw.row | exact Vw.pick 1 rfl Vw.row | exact Vw.pick 2 rfl Vw.row | exact Vw.pick 3 rfl Vw.row | exact Vw.pick 4 rfl Vw.row | exact Vw.pick 5 rfl Vw.row | exact Vw.pick 6 rfl Vw.row | exact Vw.pick 7 rfl Vw.row | exact Vw.pick 8 rfl Vw.row | exact Vw.pick 9 rfl Vw.row | exact Vw.nil _ | exact Vw.empty _ _) (by first | omega | (simp only [List.length_append, be_length, List.length_cons, List.length_nil] at *; omega)) _)) rfl ?_
    rintro _ H' ⟨_, ⟨p7, c7, rfl, rfl⟩, hH⟩
    simp only [List.cons_append, List.nil_append, List.eraseIdx_cons_zero, List.eraseIdx_cons_succ, List.set_cons_zero, List.set_cons_succ] at hH
    subst hH
    refine ops_ro' rfl (ro_assign rfl) rfl ?_
    refine ops_nil ?_
    refine Then_normal ?_
    refine wp_ret' ?_
    refine Then_ret ?_
    refine' doneS_ret (res1 rfl rfl) ?_ ?_
    rotate_left 1
    exact ⟨_, ⟨p7, c7, rfl, rfl⟩, rfl⟩
    exact SubH.refl _
  · skip
    subst hc5
    refine wp_skip' ?_
    refine Then_normal ?_
    refine wp_seq' ?_
    refine wp_region' ?_
    refine ops_ro' rfl (ro_move rfl) rfl ?_
    refine ops_eff' rfl (eff_callM (Pre := []) Tryd.call66 rfl rfl (Split.nil _) (qwByte _ _ _ (by first | exact (Vw.pick 0 rfl hV) | exact (Vw.pick 1 rfl hV) | exact (Vw.pick 2 rfl hV) | exact (Vw.pick 3 rfl hV) | exact (Vw.pick 4 rfl hV) | exact (Vw.pick 5 rfl hV) | exact (Vw.pick 6 rfl hV) | exact (Vw.pick 7 rfl hV) | exact (Vw.pick 8 rfl hV) | exact (Vw.pick 9 rfl hV) | exact Vw.pick 0 rfl Vw.row | exact Vw.pick 1 rfl Vw.row | exact Vw.pick 2 rfl Vw.row | exact Vw.pick 3 rfl Vw.row | exact Vw.pick 4 rfl Vw.row | exact Vw.pick 5 rfl Vw.row | exact Vw.pick 6 rfl Vw.row | exact Vw.pick 7 rfl Vw.row | exact Vw.pick 8 rfl Vw.row | exact Vw.pick 9 rfl Vw.row | exact Vw.nil _ | exact Vw.empty _ _) (by first | omega | (simp only [List.length_append, be_length, List.length_cons, List.length_nil] at *; omega)) _)) rfl ?_
    rintro _ H' ⟨_, ⟨p9, c9, rfl, rfl⟩, hH⟩
    simp only [List.cons_append, List.nil_append, List.eraseIdx_cons_zero, List.eraseIdx_cons_succ, List.set_cons_zero, List.set_cons_succ] at hH
    subst hH
    refine ops_ro' rfl (ro_assign rfl) rfl ?_
    refine ops_nil ?_
    refine Then_normal ?_
    refine wp_ret' ?_
    refine' doneS_ret (res1 rfl rfl) ?_ ?_
    rotate_left 1
    exact ⟨_, ⟨p9, c9, rfl, rfl⟩, rfl⟩
    exact SubH.refl _


theorem qwText {V : HProp} (p : Option Addr) (c : Nat) (l : List UInt8) (hV : Vw V (.slice p l.length c) l.length (cel l)) (hl : l.length ≤ 140737488355324) (s : List UInt8) (hs : l.length + 4 + s.length ≤ 140737488355328) : Tri Tryd.prog 70 [.slice p l.length c, .string (str s)] [V] (fun v H' => ∃ K, (∃ p' c', v = .slice p' (l ++ be s.length 4 ++ s).length c' ∧ K = [row 5 1 (.slice p' (l ++ be s.length 4 ++ s).length c') (l ++ be s.length 4 ++ s).length (cel (l ++ be s.length 4 ++ s))]) ∧ H' = K ++ [V]) := by
  refine tri_of_wpS Tryd.func70 rfl Tryd.ntmps70 (by simp) ?_
  refine wp_seq' ?_
  refine wp_region' ?_
  refine ops_ro' rfl (ro_assign rfl) rfl ?_
  refine ops_nil ?_
  refine Then_normal ?_
  refine wp_seq' ?_
  refine wp_region' ?_
  refine ops_ro' rfl (ro_move rfl) rfl ?_
  refine ops_ro' rfl (ro_move rfl) rfl ?_
  refine ops_ro' rfl (ro_lenS (t' := 0) Tryd.underlying9 rfl) rfl ?_
  refine ops_ro' rfl (ro_conv Tryd.underlying3 Tryd.underlying44 rfl (conv32 _)) rfl ?_
  refine ops_eff' rfl (eff_callM (Pre := []) Tryd.call68 rfl rfl (Split.nil _) (qwU32 _ _ _ (by first | exact (Vw.pick 0 rfl hV) | exact (Vw.pick 1 rfl hV) | exact (Vw.pick 2 rfl hV) | exact (Vw.pick 3 rfl hV) | exact (Vw.pick 4 rfl hV) | exact (Vw.pick 5 rfl hV) | exact (Vw.pick 6 rfl hV) | exact (Vw.pick 7 rfl hV) | exact (Vw.pick 8 rfl hV) | exact (Vw.pick 9 rfl hV) | exact Vw.pick 0 rfl Vw.row | exact Vw.pick 1 rfl Vw.row | exact Vw.pick 2 rfl Vw.row | exact Vw.pick 3 rfl Vw.row | exact Vw.pick 4 rfl Vw.row | exact Vw.pick 5 rfl Vw.row | exact Vw.pick 6 rfl Vw.row | exact Vw.pick 7 rfl Vw.row | exact Vw.pick 8 rfl Vw.row | exact Vw.pick 9 rfl Vw.row | exact Vw.nil _ | exact Vw.empty _ _) (by first | omega | (simp only [List.length_append, be_length, List.length_cons, List.length_nil] at *; omega)) _)) rfl ?_
  rintro _ H' ⟨_, ⟨p9, c9, rfl, rfl⟩, hH⟩
  simp only [List.cons_append, List.nil_append, List.eraseIdx_cons_zero, List.eraseIdx_cons_succ, List.set_cons_zero, List.set_cons_succ] at hH
  subst hH
  refine ops_ro' rfl (ro_move rfl) rfl ?_
  refine ops_eff' rfl (eff_appB (l2 := s) 0 sl28 (.inr Tryd.underlying9) rfl rfl rfl (by first | exact Src.strl | exact Src.celv (Vw.pick 0 rfl hV) | exact Src.celv (Vw.pick 1 rfl hV) | exact Src.celv (Vw.pick 2 rfl hV) | exact Src.celv (Vw.pick 3 rfl hV) | exact Src.celv (Vw.pick 4 rfl hV) | exact Src.celv (Vw.pick 5 rfl hV) | exact Src.celv (Vw.pick 6 rfl hV) | exact Src.celv (Vw.pick 7 rfl hV) | exact Src.celv (Vw.pick 8 rfl hV) | exact Src.celv (Vw.pick 9 rfl hV) | exact Src.celv (Vw.pick 0 rfl Vw.row) | exact Src.celv (Vw.pick 1 rfl Vw.row) | exact Src.celv (Vw.pick 2 rfl Vw.row) | exact Src.celv (Vw.pick 3 rfl Vw.row) | exact Src.celv (Vw.pick 4 rfl Vw.row) | exact Src.celv (Vw.pick 5 rfl Vw.row) | exact Src.celv (Vw.pick 6 rfl Vw.row) | exact Src.celv (Vw.pick 7 rfl Vw.row) | exact Src.celv (Vw.pick 8 rfl Vw.row) | exact Src.celv (Vw.pick 9 rfl Vw.row)) (by first | omega | (simp only [List.length_append, be_length, List.length_cons, List.length_nil] at *; omega))) rfl ?_
  rintro _ _ ⟨p11, c11, rfl, hn11, rfl⟩
  simp only [List.set_cons_zero, List.set_cons_succ]
  rw [be_mod]
  refine ops_ro' rfl (ro_assign rfl) rfl ?_
  refine ops_nil ?_
  refine Then_normal ?_
  refine wp_ret' ?_
  refine' doneS_ret (res1 rfl rfl) ?_ ?_
  rotate_left 1
  exact ⟨_, ⟨p11, c11, rfl, rfl⟩, rfl⟩
  exact SubH.refl _


theorem qwBare {V : HProp} (p : Option Addr) (c : Nat) (l : List UInt8) (hV : Vw V (.slice p l.length c) l.length (cel l)) (hl : l.length ≤ 140737488355320) (hc : l.length ≤ c) : Tri Tryd.prog 81 [.slice p l.length c] [V] (fun v H' => ∃ K, (∃ p' c', v = .slice p' (bare l).length c' ∧ K = [row 5 1 (.slice p' (bare l).length c') (bare l).length (cel (bare l))]) ∧ H' = K ++ [V]) := by
  walk "YtbiohqwBare"


theorem joinc_snoc (c : UInt8) : ∀ {a : List (List UInt8)} (x : List UInt8), a ≠ [] → joinc c (a ++ [x]) = joinc c a ++ c :: x := fun x h => by rw [joinc_append c h (by simp)]; rfl
theorem jnc_succ {l : List (List UInt8)} {i : Nat} (hi : i < l.length) (h0 : 0 < i) : joinc 44 (l.take (i + 1)) = joinc 44 (l.take i) ++ [44] ++ l[i] := by
  rw [List.take_succ_eq_append_getElem hi, joinc_snoc 44 _ (by intro h; have h2 := congrArg List.length h; rw [List.length_take, List.length_nil] at h2; omega)]; simp
theorem jnc_zero {l : List (List UInt8)} {i : Nat} (hi : i < l.length) (h0 : i = 0) : joinc 44 (l.take (i + 1)) = joinc 44 (l.take i) ++ l[i] := by
  subst h0
  rw [List.take_succ_eq_append_getElem hi]; simp [joinc]
theorem qwJoin {V : HProp} (q : Option Addr) (cq : Nat) (l : List (List UInt8)) (hV : Vw V (.slice q l.length cq) l.length (txs l)) (hl : l.length ≤ 140737488355328) (hj : ∀ i, (joinc 44 (l.take i)).length ≤ 140737488350000) (hx : ∀ x ∈ l, x.length ≤ 140737488355328) :
    Tri Tryd.prog 83 [.slice q l.length cq] [V] (fun v H' => ∃ K, (v = .string (str (joinc 44 l)) ∧ K = []) ∧ H' = K ++ [V]) := by
  walk "YtbiohqwJoin"


theorem qwNames {V : HProp} (p : Option Addr) (c : Nat) (l : List UInt8) (hV : Vw V (.slice p l.length c) l.length (cel l)) (hl : l.length ≤ 140737488355320) (hl2 : l.length ≤ 1000000000) (q : Option Addr) (cq : Nat) (x : List (List UInt8)) (hVx : Vw V (.slice q x.length cq) x.length (txs x)) (hx : x.length ≤ 140737488355328) (hj : ∀ i, (joinc 44 (x.take i)).length ≤ 100000000000) (hxx : ∀ y ∈ x, y.length ≤ 140737488355328) :
    Tri Tryd.prog 72 [.slice p l.length c, .slice q x.length cq] [V] (fun v H' => ∃ K, (∃ p' c', v = .slice p' (l ++ be (joinc 44 x).length 4 ++ joinc 44 x).length c' ∧ K = [row 5 1 (.slice p' (l ++ be (joinc 44 x).length 4 ++ joinc 44 x).length c') (l ++ be (joinc 44 x).length 4 ++ joinc 44 x).length (cel (l ++ be (joinc 44 x).length 4 ++ joinc 44 x))]) ∧ H' = K ++ [V]) := by
  refine tri_of_wpS Tryd.func72 rfl Tryd.ntmps72 (by simp) ?_
  refine wp_seq' ?_
  refine wp_region' ?_
  refine ops_ro' rfl (ro_assign rfl) rfl ?_
  refine ops_nil ?_
  refine Then_normal ?_
  refine wp_seq' ?_
  refine wp_region' ?_
  refine ops_ro' rfl (ro_move rfl) rfl ?_
  refine ops_ro' rfl (ro_move rfl) rfl ?_
  refine ops_eff' rfl (eff_callM (Pre := []) Tryd.call83 rfl rfl (Split.nil _) (qwJoin q cq x (Vw.pick 0 rfl hVx) hx (fun i => Nat.le_trans (hj i) (by decide)) hxx)) rfl ?_
  rintro _ H' ⟨_, ⟨rfl, rfl⟩, hH⟩
  simp only [List.cons_append, List.nil_append, List.eraseIdx_cons_zero, List.eraseIdx_cons_succ, List.set_cons_zero, List.set_cons_succ] at hH
  subst hH
  refine ops_eff' rfl (eff_callM (Pre := []) Tryd.call70 rfl rfl (Split.nil _) (qwText p c l (Vw.pick 0 rfl hV) (by omega) (joinc 44 x) (by have := hj x.length; rw [List.take_length] at this; omega))) rfl ?_
  rintro _ H' ⟨_, ⟨p8, c8, rfl, rfl⟩, hH⟩
  simp only [List.cons_append, List.nil_append, List.eraseIdx_cons_zero, List.eraseIdx_cons_succ, List.set_cons_zero, List.set_cons_succ] at hH
  subst hH
  refine ops_ro' rfl (ro_assign rfl) rfl ?_
  refine ops_nil ?_
  refine Then_normal ?_
  refine wp_ret' ?_
  refine' doneS_ret (res1 rfl rfl) ?_ ?_
  rotate_left 1
  exact ⟨_, ⟨p8, c8, rfl, rfl⟩, rfl⟩
  exact SubH.refl _

end Go.Proofs.YtbiohhfibkolgaaDoor
