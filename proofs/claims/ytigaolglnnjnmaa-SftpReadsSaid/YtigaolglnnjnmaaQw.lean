/-
  The writers of package strongroomref1.
-/
import Derived.Test.YtigaolglnnjnmaaRef1
import Derived.Test.YtigaolglnnjnmaaRd1
import Derived.Test.YtigaolglnnjnmaaWire2
import Derived.Test.YtigaolglnnjnmaaParts
namespace Go.Proofs.Ytigaolglnnjnmaa
open Go.Sx
set_option linter.unusedVariables false
set_option linter.unusedSimpArgs false
set_option maxRecDepth 100000
set_option maxHeartbeats 4000000

theorem qwU32 {V : HProp} (p : Option Addr) (c : Nat) (l : List UInt8) (hV : Vw V (.slice p l.length c) l.length (cel l)) (hl : l.length ≤ 140737488355324) (n : Nat) : Tri Try.prog 53 [.slice p l.length c, .int .u32 n] [V] (fun v H' => ∃ K, (∃ p' c', v = .slice p' (l ++ be n 4).length c' ∧ K = [row 5 1 (.slice p' (l ++ be n 4).length c') (l ++ be n 4).length (cel (l ++ be n 4))]) ∧ H' = K ++ [V]) := by
  refine tri_of_wpS Try.func53 rfl Try.ntmps53 (by simp) ?_
  refine wp_seq' ?_
  refine wp_region' ?_
  refine ops_ro' rfl (ro_assign rfl) rfl ?_
  refine ops_nil ?_
  refine Then_normal ?_
  refine wp_seq' ?_
  refine wp_region' ?_
  refine ops_eff' rfl (eff_lit sl32 rfl (sbld (cs := []) [] sl32 (by decide) (by kernel_rfl) rfl) rfl (by decide)) rfl ?_
  rintro _ _ ⟨b5, rfl, rfl⟩
  refine ops_ro' rfl (ro_move rfl) rfl ?_
  refine ops_eff' rfl (eff_appB (l := []) (l2 := l) 0 sl32 (.inl ⟨5, Try.underlying32⟩) rfl rfl rfl (by first | exact Src.strl | exact Src.celv (Vw.pick 0 rfl hV) | exact Src.celv (Vw.pick 1 rfl hV) | exact Src.celv (Vw.pick 2 rfl hV) | exact Src.celv (Vw.pick 3 rfl hV) | exact Src.celv (Vw.pick 4 rfl hV) | exact Src.celv (Vw.pick 5 rfl hV) | exact Src.celv (Vw.pick 6 rfl hV) | exact Src.celv (Vw.pick 7 rfl hV) | exact Src.celv (Vw.pick 8 rfl hV) | exact Src.celv (Vw.pick 9 rfl hV) | exact Src.celv (Vw.pick 0 rfl Vw.row) | exact Src.celv (Vw.pick 1 rfl Vw.row) | exact Src.celv (Vw.pick 2 rfl Vw.row) | exact Src.celv (Vw.pick 3 rfl Vw.row) | exact Src.celv (Vw.pick 4 rfl Vw.row) | exact Src.celv (Vw.pick 5 rfl Vw.row) | exact Src.celv (Vw.pick 6 rfl Vw.row) | exact Src.celv (Vw.pick 7 rfl Vw.row) | exact Src.celv (Vw.pick 8 rfl Vw.row) | exact Src.celv (Vw.pick 9 rfl Vw.row)) (by first | omega | (simp only [List.length_append, List.length_cons, List.length_nil, List.length_take, List.length_drop] at *; omega))) rfl ?_
  rintro _ _ ⟨p7, c7, rfl, hn7, rfl⟩
  simp only [List.set_cons_zero, List.set_cons_succ, List.nil_append]
  refine ops_ro' rfl (ro_move rfl) rfl ?_
  refine ops_ro' rfl (ro_shr rfl rfl (by omega) (shr32 n 3 (by omega))) rfl ?_
  refine ops_ro' rfl (ro_conv Try.underlying40 Try.underlying5 rfl (conv8 _)) rfl ?_
  refine ops_ro' rfl (ro_move rfl) rfl ?_
  refine ops_ro' rfl (ro_shr rfl rfl (by omega) (shr32 n 2 (by omega))) rfl ?_
  refine ops_ro' rfl (ro_conv Try.underlying40 Try.underlying5 rfl (conv8 _)) rfl ?_
  refine ops_ro' rfl (ro_move rfl) rfl ?_
  refine ops_ro' rfl (ro_shr rfl rfl (by omega) (shr32 n 1 (by omega))) rfl ?_
  refine ops_ro' rfl (ro_conv Try.underlying40 Try.underlying5 rfl (conv8 _)) rfl ?_
  refine ops_ro' rfl (ro_move rfl) rfl ?_
  refine ops_ro' rfl (ro_conv Try.underlying40 Try.underlying5 rfl (conv80 n)) rfl ?_
  refine ops_eff' rfl (eff_lit sl32 rfl (sbld (cs := cel (be n 4)) [(.int .u8 0), (.int .u8 0), (.int .u8 0), (.int .u8 0)] sl32 (by decide) (by kernel_rfl) rfl) rfl (by decide)) rfl ?_
  rintro _ _ ⟨b19, rfl, rfl⟩
  refine ops_eff' rfl (eff_appB (l2 := be n 4) 1 sl32 (.inl ⟨5, Try.underlying32⟩) rfl rfl rfl (by first | exact Src.strl | exact Src.celv (Vw.pick 0 rfl hV) | exact Src.celv (Vw.pick 1 rfl hV) | exact Src.celv (Vw.pick 2 rfl hV) | exact Src.celv (Vw.pick 3 rfl hV) | exact Src.celv (Vw.pick 4 rfl hV) | exact Src.celv (Vw.pick 5 rfl hV) | exact Src.celv (Vw.pick 6 rfl hV) | exact Src.celv (Vw.pick 7 rfl hV) | exact Src.celv (Vw.pick 8 rfl hV) | exact Src.celv (Vw.pick 9 rfl hV) | exact Src.celv (Vw.pick 0 rfl Vw.row) | exact Src.celv (Vw.pick 1 rfl Vw.row) | exact Src.celv (Vw.pick 2 rfl Vw.row) | exact Src.celv (Vw.pick 3 rfl Vw.row) | exact Src.celv (Vw.pick 4 rfl Vw.row) | exact Src.celv (Vw.pick 5 rfl Vw.row) | exact Src.celv (Vw.pick 6 rfl Vw.row) | exact Src.celv (Vw.pick 7 rfl Vw.row) | exact Src.celv (Vw.pick 8 rfl Vw.row) | exact Src.celv (Vw.pick 9 rfl Vw.row)) (by first | omega | (simp only [List.length_append, be_length, List.length_cons, List.length_nil] at *; omega))) rfl ?_
  rintro _ _ ⟨p20, c20, rfl, hn20, rfl⟩
  simp only [List.set_cons_zero, List.set_cons_succ]
  refine ops_ro' rfl (ro_assign rfl) rfl ?_
  refine ops_nil ?_
  refine Then_normal ?_
  refine wp_ret' ?_
  refine' doneS_ret (res1 rfl rfl) ?_ ?_
  rotate_left 1
  exact ⟨_, ⟨p20, c20, rfl, rfl⟩, rfl⟩
  exact (SubH.cons 1 rfl (SubH.cons 1 rfl (SubH.nil _)))


theorem qwU64 {V : HProp} (p : Option Addr) (c : Nat) (l : List UInt8) (hV : Vw V (.slice p l.length c) l.length (cel l)) (hl : l.length ≤ 140737488355320) (n : Nat) : Tri Try.prog 69 [.slice p l.length c, .int .u64 n] [V] (fun v H' => ∃ K, (∃ p' c', v = .slice p' (l ++ be n 8).length c' ∧ K = [row 5 1 (.slice p' (l ++ be n 8).length c') (l ++ be n 8).length (cel (l ++ be n 8))]) ∧ H' = K ++ [V]) := by
  refine tri_of_wpS Try.func69 rfl Try.ntmps69 (by simp) ?_
  refine wp_seq' ?_
  refine wp_region' ?_
  refine ops_ro' rfl (ro_assign rfl) rfl ?_
  refine ops_nil ?_
  refine Then_normal ?_
  refine wp_seq' ?_
  refine wp_region' ?_
  refine ops_ro' rfl (ro_move rfl) rfl ?_
  refine ops_ro' rfl (ro_move rfl) rfl ?_
  refine ops_ro' rfl (ro_shr rfl rfl (by omega) (shr64 n)) rfl ?_
  refine ops_ro' rfl (ro_conv Try.underlying52 Try.underlying40 rfl (conv32 _)) rfl ?_
  refine ops_eff' rfl (eff_callM (Pre := []) Try.call53 rfl rfl (Split.nil _) (qwU32 _ _ _ (by first | exact (Vw.pick 0 rfl hV) | exact (Vw.pick 1 rfl hV) | exact (Vw.pick 2 rfl hV) | exact (Vw.pick 3 rfl hV) | exact (Vw.pick 4 rfl hV) | exact (Vw.pick 5 rfl hV) | exact (Vw.pick 6 rfl hV) | exact (Vw.pick 7 rfl hV) | exact (Vw.pick 8 rfl hV) | exact (Vw.pick 9 rfl hV) | exact Vw.pick 0 rfl Vw.row | exact Vw.pick 1 rfl Vw.row | exact Vw.pick 2 rfl Vw.row | exact Vw.pick 3 rfl Vw.row | exact Vw.pick 4 rfl Vw.row | exact Vw.pick 5 rfl Vw.row | exact Vw.pick 6 rfl Vw.row | exact Vw.pick 7 rfl Vw.row | exact Vw.pick 8 rfl Vw.row | exact Vw.pick 9 rfl Vw.row | exact Vw.nil _ | exact Vw.empty _ _) (by first | omega | (simp only [List.length_append, be_length, List.length_cons, List.length_nil] at *; omega)) _)) rfl ?_
  rintro _ H' ⟨_, ⟨p9, c9, rfl, rfl⟩, hH⟩
  simp only [List.cons_append, List.nil_append, List.eraseIdx_cons_zero, List.eraseIdx_cons_succ, List.set_cons_zero, List.set_cons_succ] at hH
  subst hH
  refine ops_ro' rfl (ro_move rfl) rfl ?_
  refine ops_ro' rfl (ro_conv Try.underlying52 Try.underlying40 rfl (conv32 _)) rfl ?_
  refine ops_eff' rfl (eff_callM (Pre := []) Try.call53 rfl rfl (Split.nil _) (qwU32 _ _ _ (by first | exact (Vw.pick 0 rfl hV) | exact (Vw.pick 1 rfl hV) | exact (Vw.pick 2 rfl hV) | exact (Vw.pick 3 rfl hV) | exact (Vw.pick 4 rfl hV) | exact (Vw.pick 5 rfl hV) | exact (Vw.pick 6 rfl hV) | exact (Vw.pick 7 rfl hV) | exact (Vw.pick 8 rfl hV) | exact (Vw.pick 9 rfl hV) | exact Vw.pick 0 rfl Vw.row | exact Vw.pick 1 rfl Vw.row | exact Vw.pick 2 rfl Vw.row | exact Vw.pick 3 rfl Vw.row | exact Vw.pick 4 rfl Vw.row | exact Vw.pick 5 rfl Vw.row | exact Vw.pick 6 rfl Vw.row | exact Vw.pick 7 rfl Vw.row | exact Vw.pick 8 rfl Vw.row | exact Vw.pick 9 rfl Vw.row | exact Vw.nil _ | exact Vw.empty _ _) (by first | omega | (simp only [List.length_append, be_length, List.length_cons, List.length_nil] at *; omega)) _)) rfl ?_
  rintro _ H' ⟨_, ⟨p12, c12, rfl, rfl⟩, hH⟩
  simp only [List.cons_append, List.nil_append, List.eraseIdx_cons_zero, List.eraseIdx_cons_succ, List.set_cons_zero, List.set_cons_succ] at hH
  subst hH
  rw [be_mod, be_mod, List.append_assoc, ← be8]
  refine ops_ro' rfl (ro_assign rfl) rfl ?_
  refine ops_nil ?_
  refine Then_normal ?_
  refine wp_ret' ?_
  refine' doneS_ret (res1 rfl rfl) ?_ ?_
  rotate_left 1
  exact ⟨_, ⟨p12, c12, rfl, rfl⟩, rfl⟩
  exact (SubH.cons 0 rfl (SubH.cons 1 rfl (SubH.nil _)))


theorem conv_b8 (i : Int) : IntKind.u8.wrap i = ((b8 i).toNat : Int) := by
  rw [wrap_u8_mod, b8, UInt8.toNat_ofNat']; omega
theorem qwText {V : HProp} (p : Option Addr) (c : Nat) (l : List UInt8) (hV : Vw V (.slice p l.length c) l.length (cel l)) (hl : l.length ≤ 140737488355324) (s : List UInt8) (hs : l.length + 4 + s.length ≤ 140737488355328) : Tri Try.prog 44 [.slice p l.length c, .string (str s)] [V] (fun v H' => ∃ K, (∃ p' c', v = .slice p' (l ++ be s.length 4 ++ s).length c' ∧ K = [row 5 1 (.slice p' (l ++ be s.length 4 ++ s).length c') (l ++ be s.length 4 ++ s).length (cel (l ++ be s.length 4 ++ s))]) ∧ H' = K ++ [V]) := by
  refine tri_of_wpS Try.func44 rfl Try.ntmps44 (by simp) ?_
  refine wp_seq' ?_
  refine wp_region' ?_
  refine ops_ro' rfl (ro_assign rfl) rfl ?_
  refine ops_nil ?_
  refine Then_normal ?_
  refine wp_seq' ?_
  refine wp_region' ?_
  refine ops_ro' rfl (ro_move rfl) rfl ?_
  refine ops_ro' rfl (ro_move rfl) rfl ?_
  refine ops_ro' rfl (ro_lenS (t' := 0) Try.underlying9 rfl) rfl ?_
  refine ops_ro' rfl (ro_conv Try.underlying3 Try.underlying40 rfl (conv32 _)) rfl ?_
  refine ops_eff' rfl (eff_callM (Pre := []) Try.call53 rfl rfl (Split.nil _) (qwU32 _ _ _ (by first | exact (Vw.pick 0 rfl hV) | exact (Vw.pick 1 rfl hV) | exact (Vw.pick 2 rfl hV) | exact (Vw.pick 3 rfl hV) | exact (Vw.pick 4 rfl hV) | exact (Vw.pick 5 rfl hV) | exact (Vw.pick 6 rfl hV) | exact (Vw.pick 7 rfl hV) | exact (Vw.pick 8 rfl hV) | exact (Vw.pick 9 rfl hV) | exact Vw.pick 0 rfl Vw.row | exact Vw.pick 1 rfl Vw.row | exact Vw.pick 2 rfl Vw.row | exact Vw.pick 3 rfl Vw.row | exact Vw.pick 4 rfl Vw.row | exact Vw.pick 5 rfl Vw.row | exact Vw.pick 6 rfl Vw.row | exact Vw.pick 7 rfl Vw.row | exact Vw.pick 8 rfl Vw.row | exact Vw.pick 9 rfl Vw.row | exact Vw.nil _ | exact Vw.empty _ _) (by first | omega | (simp only [List.length_append, be_length, List.length_cons, List.length_nil] at *; omega)) _)) rfl ?_
  rintro _ H' ⟨_, ⟨p9, c9, rfl, rfl⟩, hH⟩
  simp only [List.cons_append, List.nil_append, List.eraseIdx_cons_zero, List.eraseIdx_cons_succ, List.set_cons_zero, List.set_cons_succ] at hH
  subst hH
  refine ops_ro' rfl (ro_move rfl) rfl ?_
  refine ops_eff' rfl (eff_appB (l2 := s) 0 sl32 (.inr Try.underlying9) rfl rfl rfl (by first | exact Src.strl | exact Src.celv (Vw.pick 0 rfl hV) | exact Src.celv (Vw.pick 1 rfl hV) | exact Src.celv (Vw.pick 2 rfl hV) | exact Src.celv (Vw.pick 3 rfl hV) | exact Src.celv (Vw.pick 4 rfl hV) | exact Src.celv (Vw.pick 5 rfl hV) | exact Src.celv (Vw.pick 6 rfl hV) | exact Src.celv (Vw.pick 7 rfl hV) | exact Src.celv (Vw.pick 8 rfl hV) | exact Src.celv (Vw.pick 9 rfl hV) | exact Src.celv (Vw.pick 0 rfl Vw.row) | exact Src.celv (Vw.pick 1 rfl Vw.row) | exact Src.celv (Vw.pick 2 rfl Vw.row) | exact Src.celv (Vw.pick 3 rfl Vw.row) | exact Src.celv (Vw.pick 4 rfl Vw.row) | exact Src.celv (Vw.pick 5 rfl Vw.row) | exact Src.celv (Vw.pick 6 rfl Vw.row) | exact Src.celv (Vw.pick 7 rfl Vw.row) | exact Src.celv (Vw.pick 8 rfl Vw.row) | exact Src.celv (Vw.pick 9 rfl Vw.row)) (by first | omega | (simp only [List.length_append, be_length, List.length_cons, List.length_nil] at *; omega))) rfl ?_
  rintro _ _ ⟨p11, c11, rfl, hn11, rfl⟩
  simp only [List.set_cons_zero, List.set_cons_succ]
  rw [be_mod]
  refine ops_ro' rfl (ro_assign rfl) rfl ?_
  refine ops_nil ?_
  refine Then_normal ?_
  refine wp_ret' ?_
  refine' doneS_ret (res1 rfl rfl) ?_ ?_
  rotate_left 1
  exact ⟨_, ⟨p11, c11, rfl, rfl⟩, rfl⟩
  exact SubH.refl _


end Go.Proofs.Ytigaolglnnjnmaa
