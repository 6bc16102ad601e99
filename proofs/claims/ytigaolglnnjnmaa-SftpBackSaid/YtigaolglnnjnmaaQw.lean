/-
  The writers of package strongroomref1.
-/
import Derived.Test.YtigaolglnnjnmaaRef1
import Derived.Test.YtigaolglnnjnmaaTxt
import Derived.Test.YtigaolglnnjnmaaWire2
import Derived.Test.YtigaolglnnjnmaaParts
namespace Go.Proofs.Ytigaolglnnjnmaa
open Go.Sx
set_option linter.unusedVariables false
set_option linter.unusedSimpArgs false
set_option maxRecDepth 100000
set_option maxHeartbeats 4000000

theorem qwU32 {V : HProp} (p : Option Addr) (c : Nat) (l : List UInt8) (hV : Vw V (.slice p l.length c) l.length (cel l)) (hl : l.length ≤ 140737488355324) (n : Nat) : Tri Try.prog 53 [.slice p l.length c, .int .u32 n] [V] (fun v H' => ∃ K, (∃ p' c', v = .slice p' (l ++ be n 4).length c' ∧ K = [row 5 1 (.slice p' (l ++ be n 4).length c') (l ++ be n 4).length (cel (l ++ be n 4))]) ∧ H' = K ++ [V]) := by
  refine tri_of_wpS Try.func53 rfl Try.ntmps53 (by simp) ?_
  refine wp_seq' ?_
  refine wp_region' ?_
  refine ops_ro' rfl (ro_assign rfl) rfl ?_
  refine ops_nil ?_
  refine Then_normal ?_
  refine wp_seq' ?_
  refine wp_region' ?_
  refine ops_eff' rfl (eff_lit sl32 rfl (sbld (cs := []) [] sl32 (by decide) (by kernel_rfl) rfl) rfl (by decide)) rfl ?_
  rintro _ _ ⟨b5, rfl, rfl⟩
  refine ops_ro' rfl (ro_move rfl) rfl ?_
  refine ops_eff' rfl (eff_appB (l := []) (l2 := l) 0 sl32 (.inl ⟨5, Try.underlying32⟩) rfl rfl rfl (by first | exact Src.strl | exact Src.celv (Vw.pick 0 rfl hV) | exact Src.celv (Vw.pick 1 rfl hV) | exact Src.celv (Vw.pick 2 rfl hV) | exact Src.celv (Vw.pick 3 rfl hV) | exact Src.celv (Vw.pick 4 rfl hV) | exact Src.celv (Vw.pick 5 rfl hV) | exact Src.celv (Vw.pick 6 rfl hV) | exact Src.celv (Vw.pick 7 rfl hV) | exact Src.celv (Vw.pick 8 rfl hV) | exact Src.celv (Vw.pick 9 rfl hV) | exact Src.celv (Vw.pick 0 rfl Vw.row) | exact Src.celv (Vw.pick 1 rfl Vw.row) | exact Src.celv (Vw.pick 2 rfl Vw.row) | exact Src.celv (Vw.pick 3 rfl Vw.row) | exact Src.celv (Vw.pick 4 rfl Vw.row) | exact Src.celv (Vw.pick 5 rfl Vw.row) | exact Src.celv (Vw.pick 6 rfl Vw.row) | exact Src.celv (Vw.pick 7 rfl Vw.row) | exact Src.celv (Vw.pick 8 rfl Vw.row) | exact Src.celv (Vw.pick 9 rfl Vw.row)) (by first | omega | (simp only [List.length_append, List.length_cons, List.length_nil, List.length_take, List.length_drop] at *; omega))) rfl ?_
  rintro _ _ ⟨p7, c7, rfl, hn7, rfl⟩
  simp only [List.set_cons_zero, List.set_cons_succ, List.nil_append]
  refine ops_ro' rfl (ro_move rfl) rfl ?_
  refine ops_ro' rfl (ro_shr rfl rfl (by omega) (shr32 n 3 (by omega))) rfl ?_
  refine ops_ro' rfl (ro_conv Try.underlying40 Try.underlying5 rfl (conv8 _)) rfl ?_
  refine ops_ro' rfl (ro_move rfl) rfl ?_
  refine ops_ro' rfl (ro_shr rfl rfl (by omega) (shr32 n 2 (by omega))) rfl ?_
  refine ops_ro' rfl (ro_conv Try.underlying40 Try.underlying5 rfl (conv8 _)) rfl ?_
  refine ops_ro' rfl (ro_move rfl) rfl ?_
  refine ops_ro' rfl (ro_shr rfl rfl (by omega) (shr32 n 1 (by omega))) rfl ?_
  refine ops_ro' rfl (ro_conv Try.underlying40 Try.underlying5 rfl (conv8 _)) rfl ?_
  refine ops_ro' rfl (ro_move rfl) rfl ?_
  refine ops_ro' rfl (ro_conv Try.underlying40 Try.underlying5 rfl (conv80 n)) rfl ?_
  refine ops_eff' rfl (eff_lit sl32 rfl (sbld (cs := cel (be n 4)) [(.int .u8 0), (.int .u8 0), (.int .u8 0), (.int .u8 0)] sl32 (by decide) (by kernel_rfl) rfl) rfl (by decide)) rfl ?_
  rintro _ _ ⟨b19, rfl, rfl⟩
  refine ops_eff' rfl (eff_appB (l2 := be n 4) 1 sl32 (.inl ⟨5, Try.underlying32⟩) rfl rfl rfl (by first | exact Src.strl | exact Src.celv (Vw.pick 0 rfl hV) | exact Src.celv (Vw.pick 1 rfl hV) | exact Src.celv (Vw.pick 2 rfl hV) | exact Src.celv (Vw.pick 3 rfl hV) | exact Src.celv (Vw.pick 4 rfl hV) | exact Src.celv (Vw.pick 5 rfl hV) | exact Src.celv (Vw.pick 6 rfl hV) | exact Src.celv (Vw.pick 7 rfl hV) | exact Src.celv (Vw.pick 8 rfl hV) | exact Src.celv (Vw.pick 9 rfl hV) | exact Src.celv (Vw.pick 0 rfl Vw.row) | exact Src.celv (Vw.pick 1 rfl Vw.row) | exact Src.celv (Vw.pick 2 rfl Vw.row) | exact Src.celv (Vw.pick 3 rfl Vw.row) | exact Src.celv (Vw.pick 4 rfl Vw.row) | exact Src.celv (Vw.pick 5 rfl Vw.row) | exact Src.celv (Vw.pick 6 rfl Vw.row) | exact Src.celv (Vw.pick 7 rfl Vw.row) | exact Src.celv (Vw.pick 8 rfl Vw.row) | exact Src.celv (Vw.pick 9 rfl Vw.row)) (by first | omega | (simp only [List.length_append, be_length, List.length_cons, List.length_nil] at *; omega))) rfl ?_
  rintro _ _ ⟨p20, c20, rfl, hn20, rfl⟩
  simp only [List.set_cons_zero, List.set_cons_succ]
  refine ops_ro' rfl (ro_assign rfl) rfl ?_
  refine ops_nil ?_
  refine Then_normal ?_
  refine wp_ret' ?_
  refine' doneS_ret (res1 rfl rfl) ?_ ?_
  rotate_left 1
  exact ⟨_, ⟨p20, c20, rfl, rfl⟩, rfl⟩
  exact (SubH.cons 1 rfl (SubH.cons 1 rfl (SubH.nil _)))


theorem qwU64 {V : HProp} (p : Option Addr) (c : Nat) (l : List UInt8) (hV : Vw V (.slice p l.length c) l.length (cel l)) (hl : l.length ≤ 140737488355320) (n : Nat) : Tri Try.prog 69 [.slice p l.length c, .int .u64 n] [V] (fun v H' => ∃ K, (∃ p' c', v = .slice p' (l ++ be n 8).length c' ∧ K = [row 5 1 (.slice p' (l ++ be n 8).length c') (l ++ be n 8).length (cel (l ++ be n 8))]) ∧ H' = K ++ [V]) := by
  refine tri_of_wpS Try.func69 rfl Try.ntmps69 (by simp) ?_
  refine wp_seq' ?_
  refine wp_region' ?_
  refine ops_ro' rfl (ro_assign rfl) rfl ?_
  refine ops_nil ?_
  refine Then_normal ?_
  refine wp_seq' ?_
  refine wp_region' ?_
  refine ops_ro' rfl (ro_move rfl) rfl ?_
  refine ops_ro' rfl (ro_move rfl) rfl ?_
  refine ops_ro' rfl (ro_shr rfl rfl (by omega) (shr64 n)) rfl ?_
  refine ops_ro' rfl (ro_conv Try.underlying52 Try.underlying40 rfl (conv32 _)) rfl ?_
  refine ops_eff' rfl (eff_callM (Pre := []) Try.call53 rfl rfl (Split.nil _) (qwU32 _ _ _ (by first | exact (Vw.pick 0 rfl hV) | exact (Vw.pick 1 rfl hV) | exact (Vw.pick 2 rfl hV) | exact (Vw.pick 3 rfl hV) | exact (Vw.pick 4 rfl hV) | exact (Vw.pick 5 rfl hV) | exact (Vw.pick 6 rfl hV) | exact (Vw.pick 7 rfl hV) | exact (Vw.pick 8 rfl hV) | exact (Vw.pick 9 rfl hV) | exact Vw.pick 0 rfl Vw.row | exact Vw.pick 1 rfl Vw.row | exact Vw.pick 2 rfl Vw.row | exact Vw.pick 3 rfl Vw.row | exact Vw.pick 4 rfl Vw.row | exact Vw.pick 5 rfl Vw.row | exact Vw.pick 6 rfl Vw.row | exact Vw.pick 7 rfl Vw.row | exact Vw.pick 8 rfl Vw.row | exact Vw.pick 9 rfl Vw.row | exact Vw.nil _ | exact Vw.empty _ _) (by first | omega | (simp only [List.length_append, be_length, List.length_cons, List.length_nil] at *; omega)) _)) rfl ?_
  rintro _ H' ⟨_, ⟨p9, c9, rfl, rfl⟩, hH⟩
  simp only [List.cons_append, List.nil_append, List.eraseIdx_cons_zero, List.eraseIdx_cons_succ, List.set_cons_zero, List.set_cons_succ] at hH
  subst hH
  refine ops_ro' rfl (ro_move rfl) rfl ?_
  refine ops_ro' rfl (ro_conv Try.underlying52 Try.underlying40 rfl (conv32 _)) rfl ?_
  refine ops_eff' rfl (eff_callM (Pre := []) Try.call53 rfl rfl (Split.nil _) (qwU32 _ _ _ (by first | exact (Vw.pick 0 rfl hV) | exact (Vw.pick 1 rfl hV) | exact (Vw.pick 2 rfl hV) | exact (Vw.pick 3 rfl hV) | exact (Vw.pick 4 rfl hV) | exact (Vw.pick 5 rfl hV) | exact (Vw.pick 6 rfl hV) | exact (Vw.pick 7 rfl hV) | exact (Vw.pick 8 rfl hV) | exact (Vw.pick 9 rfl hV) | exact Vw.pick 0 rfl Vw.row | exact Vw.pick 1 rfl Vw.row | exact Vw.pick 2 rfl Vw.row | exact Vw.pick 3 rfl Vw.row | exact Vw.pick 4 rfl Vw.row | exact Vw.pick 5 rfl Vw.row | exact Vw.pick 6 rfl Vw.row | exact Vw.pick 7 rfl Vw.row | exact Vw.pick 8 rfl Vw.row | exact Vw.pick 9 rfl Vw.row | exact Vw.nil _ | exact Vw.empty _ _) (by first | omega | (simp only [List.length_append, be_length, List.length_cons, List.length_nil] at *; omega)) _)) rfl ?_
  rintro _ H' ⟨_, ⟨p12, c12, rfl, rfl⟩, hH⟩
  simp only [List.cons_append, List.nil_append, List.eraseIdx_cons_zero, List.eraseIdx_cons_succ, List.set_cons_zero, List.set_cons_succ] at hH
  subst hH
  rw [be_mod, be_mod, List.append_assoc, ← be8]
  refine ops_ro' rfl (ro_assign rfl) rfl ?_
  refine ops_nil ?_
  refine Then_normal ?_
  refine wp_ret' ?_
  refine' doneS_ret (res1 rfl rfl) ?_ ?_
  rotate_left 1
  exact ⟨_, ⟨p12, c12, rfl, rfl⟩, rfl⟩
  exact (SubH.cons 0 rfl (SubH.cons 1 rfl (SubH.nil _)))


theorem conv_b8 (i : Int) : IntKind.u8.wrap i = ((b8 i).toNat : Int) := by
  rw [wrap_u8_mod, b8, UInt8.toNat_ofNat']; omega
theorem qwByte {V : HProp} (p : Option Addr) (c : Nat) (l : List UInt8) (hV : Vw V (.slice p l.length c) l.length (cel l)) (hl : l.length ≤ 140737488355327) (i : Int) : Tri Try.prog 82 [.slice p l.length c, .int .i64 i] [V] (fun v H' => ∃ K, (∃ p' c', v = .slice p' (l ++ [b8 i]).length c' ∧ K = [row 5 1 (.slice p' (l ++ [b8 i]).length c') (l ++ [b8 i]).length (cel (l ++ [b8 i]))]) ∧ H' = K ++ [V]) := by
  refine tri_of_wpS Try.func82 rfl Try.ntmps82 (by simp) ?_
  refine wp_seq' ?_
  refine wp_region' ?_
  refine ops_ro' rfl (ro_assign rfl) rfl ?_
  refine ops_nil ?_
  refine Then_normal ?_
  refine wp_seq' ?_
  refine wp_region' ?_
  refine ops_eff' rfl (eff_lit sl32 rfl (sbld (cs := []) [] sl32 (by decide) (by kernel_rfl) rfl) rfl (by decide)) rfl ?_
  rintro _ _ ⟨b5, rfl, rfl⟩
  refine ops_ro' rfl (ro_move rfl) rfl ?_
  refine ops_eff' rfl (eff_appB (l := []) (l2 := l) 0 sl32 (.inl ⟨5, Try.underlying32⟩) rfl rfl rfl (by first | exact Src.strl | exact Src.celv (Vw.pick 0 rfl hV) | exact Src.celv (Vw.pick 1 rfl hV) | exact Src.celv (Vw.pick 2 rfl hV) | exact Src.celv (Vw.pick 3 rfl hV) | exact Src.celv (Vw.pick 4 rfl hV) | exact Src.celv (Vw.pick 5 rfl hV) | exact Src.celv (Vw.pick 6 rfl hV) | exact Src.celv (Vw.pick 7 rfl hV) | exact Src.celv (Vw.pick 8 rfl hV) | exact Src.celv (Vw.pick 9 rfl hV) | exact Src.celv (Vw.pick 0 rfl Vw.row) | exact Src.celv (Vw.pick 1 rfl Vw.row) | exact Src.celv (Vw.pick 2 rfl Vw.row) | exact Src.celv (Vw.pick 3 rfl Vw.row) | exact Src.celv (Vw.pick 4 rfl Vw.row) | exact Src.celv (Vw.pick 5 rfl Vw.row) | exact Src.celv (Vw.pick 6 rfl Vw.row) | exact Src.celv (Vw.pick 7 rfl Vw.row) | exact Src.celv (Vw.pick 8 rfl Vw.row) | exact Src.celv (Vw.pick 9 rfl Vw.row)) (by first | omega | (simp only [List.length_append, List.length_cons, List.length_nil, List.length_take, List.length_drop] at *; omega))) rfl ?_
  rintro _ _ ⟨p7, c7, rfl, hn7, rfl⟩
  simp only [List.set_cons_zero, List.set_cons_succ, List.nil_append]
  refine ops_ro' rfl (ro_move rfl) rfl ?_
  refine ops_ro' rfl (ro_conv Try.underlying3 Try.underlying5 rfl (conv_b8 i)) rfl ?_
  refine ops_eff' rfl (eff_lit sl32 rfl (sbld (cs := cel [b8 i]) [(.int .u8 0)] sl32 (by decide) (by kernel_rfl) rfl) rfl (by decide)) rfl ?_
  rintro _ _ ⟨b10, rfl, rfl⟩
  refine ops_eff' rfl (eff_appB (l2 := [b8 i]) 1 sl32 (.inl ⟨5, Try.underlying32⟩) rfl rfl rfl (by first | exact Src.strl | exact Src.celv (Vw.pick 0 rfl hV) | exact Src.celv (Vw.pick 1 rfl hV) | exact Src.celv (Vw.pick 2 rfl hV) | exact Src.celv (Vw.pick 3 rfl hV) | exact Src.celv (Vw.pick 4 rfl hV) | exact Src.celv (Vw.pick 5 rfl hV) | exact Src.celv (Vw.pick 6 rfl hV) | exact Src.celv (Vw.pick 7 rfl hV) | exact Src.celv (Vw.pick 8 rfl hV) | exact Src.celv (Vw.pick 9 rfl hV) | exact Src.celv (Vw.pick 0 rfl Vw.row) | exact Src.celv (Vw.pick 1 rfl Vw.row) | exact Src.celv (Vw.pick 2 rfl Vw.row) | exact Src.celv (Vw.pick 3 rfl Vw.row) | exact Src.celv (Vw.pick 4 rfl Vw.row) | exact Src.celv (Vw.pick 5 rfl Vw.row) | exact Src.celv (Vw.pick 6 rfl Vw.row) | exact Src.celv (Vw.pick 7 rfl Vw.row) | exact Src.celv (Vw.pick 8 rfl Vw.row) | exact Src.celv (Vw.pick 9 rfl Vw.row)) (by first | omega | (simp only [List.length_append, be_length, List.length_cons, List.length_nil] at *; omega))) rfl ?_
  rintro _ _ ⟨p11, c11, rfl, hn11, rfl⟩
  simp only [List.set_cons_zero, List.set_cons_succ]
  refine ops_ro' rfl (ro_assign rfl) rfl ?_
  refine ops_nil ?_
  refine Then_normal ?_
  refine wp_ret' ?_
  refine' doneS_ret (res1 rfl rfl) ?_ ?_
  rotate_left 1
  exact ⟨_, ⟨p11, c11, rfl, rfl⟩, rfl⟩
  exact (SubH.cons 1 rfl (SubH.cons 1 rfl (SubH.nil _)))


theorem qwBool {V : HProp} (p : Option Addr) (c : Nat) (l : List UInt8) (hV : Vw V (.slice p l.length c) l.length (cel l)) (hl : l.length ≤ 140737488355327) (b : Bool) : Tri Try.prog 45 [.slice p l.length c, .bool b] [V] (fun v H' => ∃ K, (∃ p' c', v = .slice p' (l ++ [b8 (if b then 1 else 0)]).length c' ∧ K = [row 5 1 (.slice p' (l ++ [b8 (if b then 1 else 0)]).length c') (l ++ [b8 (if b then 1 else 0)]).length (cel (l ++ [b8 (if b then 1 else 0)]))]) ∧ H' = K ++ [V]) := by
  refine tri_of_wpS Try.func45 rfl Try.ntmps45 (by simp) ?_
  refine wp_seq' ?_
  refine wp_region' ?_
  refine ops_ro' rfl (ro_assign rfl) rfl ?_
  refine ops_nil ?_
  refine Then_normal ?_
  refine wp_seq' ?_
  refine wp_seq' ?_
  refine wp_region' ?_
  refine ops_ro' rfl (ro_move rfl) rfl ?_
  refine ops_nil ?_
  refine Then_normal ?_
  refine wp_cond' rfl (fun hc5 => ?_) (fun hc5 => ?_)
  · skip
    subst hc5
    refine wp_seq' ?_
    refine wp_region' ?_
    refine ops_ro' rfl (ro_move rfl) rfl ?_
    refine ops_eff' rfl (eff_callM (Pre := []) Try.call82 rfl rfl (Split.nil _) (qwByte _ _ _ (by first | exact (Vw.pick 0 rfl hV) | exact (Vw.pick 1 rfl hV) | exact (Vw.pick 2 rfl hV) | exact (Vw.pick 3 rfl hV) | exact (Vw.pick 4 rfl hV) | exact (Vw.pick 5 rfl hV) | exact (Vw.pick 6 rfl hV) | exact (Vw.pick 7 rfl hV) | exact (Vw.pick 8 rfl hV) | exact (Vw.pick 9 rfl hV) | exact Vw.pick 0 rfl Vw.row | exact Vw.pick 1 rfl Vw.row | exact Vw.pick 2 rfl Vw.row | exact Vw.pick 3 rfl Vw.row | exact Vw.pick 4 rfl Vw.row | exact Vw.pick 5 rfl Vw.row | exact Vw.pick 6 rfl Vw.row | exact Vw.pick 7 rfl Vw.row | exact Vw.pick 8 rfl Vw.row | exact Vw.pick 9 rfl Vw.row | exact Vw.nil _ | exact Vw.empty _ _) (by first | omega | (simp only [List.length_append, be_length, List.length_cons, List.length_nil] at *; omega)) _)) rfl ?_
    rintro _ H' ⟨_, ⟨p7, c7, rfl, rfl⟩, hH⟩
    simp only [List.cons_append, List.nil_append, List.eraseIdx_cons_zero, List.eraseIdx_cons_succ, List.set_cons_zero, List.set_cons_succ] at hH
    subst hH
    refine ops_ro' rfl (ro_assign rfl) rfl ?_
    refine ops_nil ?_
    refine Then_normal ?_
    refine wp_ret' ?_
    refine Then_ret ?_
    refine' doneS_ret (res1 rfl rfl) ?_ ?_
    rotate_left 1
    exact ⟨_, ⟨p7, c7, rfl, rfl⟩, rfl⟩
    exact SubH.refl _
  · skip
    subst hc5
    refine wp_skip' ?_
    refine Then_normal ?_
    refine wp_seq' ?_
    refine wp_region' ?_
    refine ops_ro' rfl (ro_move rfl) rfl ?_
    refine ops_eff' rfl (eff_callM (Pre := []) Try.call82 rfl rfl (Split.nil _) (qwByte _ _ _ (by first | exact (Vw.pick 0 rfl hV) | exact (Vw.pick 1 rfl hV) | exact (Vw.pick 2 rfl hV) | exact (Vw.pick 3 rfl hV) | exact (Vw.pick 4 rfl hV) | exact (Vw.pick 5 rfl hV) | exact (Vw.pick 6 rfl hV) | exact (Vw.pick 7 rfl hV) | exact (Vw.pick 8 rfl hV) | exact (Vw.pick 9 rfl hV) | exact Vw.pick 0 rfl Vw.row | exact Vw.pick 1 rfl Vw.row | exact Vw.pick 2 rfl Vw.row | exact Vw.pick 3 rfl Vw.row | exact Vw.pick 4 rfl Vw.row | exact Vw.pick 5 rfl Vw.row | exact Vw.pick 6 rfl Vw.row | exact Vw.pick 7 rfl Vw.row | exact Vw.pick 8 rfl Vw.row | exact Vw.pick 9 rfl Vw.row | exact Vw.nil _ | exact Vw.empty _ _) (by first | omega | (simp only [List.length_append, be_length, List.length_cons, List.length_nil] at *; omega)) _)) rfl ?_
    rintro _ H' ⟨_, ⟨p9, c9, rfl, rfl⟩, hH⟩
    simp only [List.cons_append, List.nil_append, List.eraseIdx_cons_zero, List.eraseIdx_cons_succ, List.set_cons_zero, List.set_cons_succ] at hH
    subst hH
    refine ops_ro' rfl (ro_assign rfl) rfl ?_
    refine ops_nil ?_
    refine Then_normal ?_
    refine wp_ret' ?_
    refine' doneS_ret (res1 rfl rfl) ?_ ?_
    rotate_left 1
    exact ⟨_, ⟨p9, c9, rfl, rfl⟩, rfl⟩
    exact SubH.refl _


theorem qwText {V : HProp} (p : Option Addr) (c : Nat) (l : List UInt8) (hV : Vw V (.slice p l.length c) l.length (cel l)) (hl : l.length ≤ 140737488355324) (s : List UInt8) (hs : l.length + 4 + s.length ≤ 140737488355328) : Tri Try.prog 44 [.slice p l.length c, .string (str s)] [V] (fun v H' => ∃ K, (∃ p' c', v = .slice p' (l ++ be s.length 4 ++ s).length c' ∧ K = [row 5 1 (.slice p' (l ++ be s.length 4 ++ s).length c') (l ++ be s.length 4 ++ s).length (cel (l ++ be s.length 4 ++ s))]) ∧ H' = K ++ [V]) := by
  refine tri_of_wpS Try.func44 rfl Try.ntmps44 (by simp) ?_
  refine wp_seq' ?_
  refine wp_region' ?_
  refine ops_ro' rfl (ro_assign rfl) rfl ?_
  refine ops_nil ?_
  refine Then_normal ?_
  refine wp_seq' ?_
  refine wp_region' ?_
  refine ops_ro' rfl (ro_move rfl) rfl ?_
  refine ops_ro' rfl (ro_move rfl) rfl ?_
  refine ops_ro' rfl (ro_lenS (t' := 0) Try.underlying9 rfl) rfl ?_
  refine ops_ro' rfl (ro_conv Try.underlying3 Try.underlying40 rfl (conv32 _)) rfl ?_
  refine ops_eff' rfl (eff_callM (Pre := []) Try.call53 rfl rfl (Split.nil _) (qwU32 _ _ _ (by first | exact (Vw.pick 0 rfl hV) | exact (Vw.pick 1 rfl hV) | exact (Vw.pick 2 rfl hV) | exact (Vw.pick 3 rfl hV) | exact (Vw.pick 4 rfl hV) | exact (Vw.pick 5 rfl hV) | exact (Vw.pick 6 rfl hV) | exact (Vw.pick 7 rfl hV) | exact (Vw.pick 8 rfl hV) | exact (Vw.pick 9 rfl hV) | exact Vw.pick 0 rfl Vw.row | exact Vw.pick 1 rfl Vw.row | exact Vw.pick 2 rfl Vw.row | exact Vw.pick 3 rfl Vw.row | exact Vw.pick 4 rfl Vw.row | exact Vw.pick 5 rfl Vw.row | exact Vw.pick 6 rfl Vw.row | exact Vw.pick 7 rfl Vw.row | exact Vw.pick 8 rfl Vw.row | exact Vw.pick 9 rfl Vw.row | exact Vw.nil _ | exact Vw.empty _ _) (by first | omega | (simp only [List.length_append, be_length, List.length_cons, List.length_nil] at *; omega)) _)) rfl ?_
  rintro _ H' ⟨_, ⟨p9, c9, rfl, rfl⟩, hH⟩
  simp only [List.cons_append, List.nil_append, List.eraseIdx_cons_zero, List.eraseIdx_cons_succ, List.set_cons_zero, List.set_cons_succ] at hH
  subst hH
  refine ops_ro' rfl (ro_move rfl) rfl ?_
  refine ops_eff' rfl (eff_appB (l2 := s) 0 sl32 (.inr Try.underlying9) rfl rfl rfl (by first | exact Src.strl | exact Src.celv (Vw.pick 0 rfl hV) | exact Src.celv (Vw.pick 1 rfl hV) | exact Src.celv (Vw.pick 2 rfl hV) | exact Src.celv (Vw.pick 3 rfl hV) | exact Src.celv (Vw.pick 4 rfl hV) | exact Src.celv (Vw.pick 5 rfl hV) | exact Src.celv (Vw.pick 6 rfl hV) | exact Src.celv (Vw.pick 7 rfl hV) | exact Src.celv (Vw.pick 8 rfl hV) | exact Src.celv (Vw.pick 9 rfl hV) | exact Src.celv (Vw.pick 0 rfl Vw.row) | exact Src.celv (Vw.pick 1 rfl Vw.row) | exact Src.celv (Vw.pick 2 rfl Vw.row) | exact Src.celv (Vw.pick 3 rfl Vw.row) | exact Src.celv (Vw.pick 4 rfl Vw.row) | exact Src.celv (Vw.pick 5 rfl Vw.row) | exact Src.celv (Vw.pick 6 rfl Vw.row) | exact Src.celv (Vw.pick 7 rfl Vw.row) | exact Src.celv (Vw.pick 8 rfl Vw.row) | exact Src.celv (Vw.pick 9 rfl Vw.row)) (by first | omega | (simp only [List.length_append, be_length, List.length_cons, List.length_nil] at *; omega))) rfl ?_
  rintro _ _ ⟨p11, c11, rfl, hn11, rfl⟩
  simp only [List.set_cons_zero, List.set_cons_succ]
  rw [be_mod]
  refine ops_ro' rfl (ro_assign rfl) rfl ?_
  refine ops_nil ?_
  refine Then_normal ?_
  refine wp_ret' ?_
  refine' doneS_ret (res1 rfl rfl) ?_ ?_
  rotate_left 1
  exact ⟨_, ⟨p11, c11, rfl, rfl⟩, rfl⟩
  exact SubH.refl _


theorem joinc_snoc (c : UInt8) : ∀ {a : List (List UInt8)} (x : List UInt8), a ≠ [] → joinc c (a ++ [x]) = joinc c a ++ c :: x := fun x h => by rw [joinc_append c h (by simp)]; rfl
theorem jnc_succ {l : List (List UInt8)} {i : Nat} (hi : i < l.length) (h0 : 0 < i) : joinc 44 (l.take (i + 1)) = joinc 44 (l.take i) ++ [44] ++ l[i] := by
  rw [List.take_succ_eq_append_getElem hi, joinc_snoc 44 _ (by intro h; have h2 := congrArg List.length h; rw [List.length_take, List.length_nil] at h2; omega)]; simp
theorem jnc_zero {l : List (List UInt8)} {i : Nat} (hi : i < l.length) (h0 : i = 0) : joinc 44 (l.take (i + 1)) = joinc 44 (l.take i) ++ l[i] := by
  subst h0
  rw [List.take_succ_eq_append_getElem hi]; simp [joinc]
theorem qwJoin {V : HProp} (q : Option Addr) (cq : Nat) (l : List (List UInt8)) (hV : Vw V (.slice q l.length cq) l.length (txs l)) (hl : l.length ≤ 140737488355328) (hj : ∀ i, (joinc 44 (l.take i)).length ≤ 140737488350000) (hx : ∀ x ∈ l, x.length ≤ 140737488355328) :
    Tri Try.prog 125 [.slice q l.length cq] [V] (fun v H' => ∃ K, (v = .string (str (joinc 44 l)) ∧ K = []) ∧ H' = K ++ [V]) := by
  refine tri_of_wpS Try.func125 rfl Try.ntmps125 (by simp) ?_
  refine wp_seq' ?_
  refine wp_region' ?_
  refine ops_ro' rfl (ro_assign rfl) rfl ?_
  refine ops_nil ?_
  refine Then_normal ?_
  refine wp_seq' ?_
  refine wp_region' ?_
  refine ops_ro' rfl (ro_assign rfl) rfl ?_
  refine ops_nil ?_
  refine Then_normal ?_
  refine wp_seq' ?_
  refine wp_seq' ?_
  refine wp_region' ?_
  refine ops_ro' rfl (ro_assign rfl) rfl ?_
  refine ops_nil ?_
  refine Then_normal ?_
  refine wp_block' ?_
  refine wp_loopK 3 (fun m Δ LL => ∃ (i : Nat), (i + m = l.length ∧ (joinc 44 (l.take i)).length ≤ 140737488350000) ∧ Δ = [(3, .string (str (joinc 44 (l.take i)))), (4, .int .i64 (i : Nat))] ∧ LL = [V]) (m := l.length) (Has.cons (k := 0) rfl (Has.nil _)) (kept ⟨0, ⟨by omega, by simp [joinc]⟩, rfl, rfl⟩ (by repeat (first | exact Has.nil _ | refine Has.cons rfl ?_)) (by repeat (first | exact Has.nil _ | refine Has.cons rfl ?_)) (by repeat (first | exact SubH.nil _ | refine SubH.cons 0 rfl ?_ | refine SubH.cons 1 rfl ?_ | refine SubH.cons 2 rfl ?_ | refine SubH.cons 3 rfl ?_ | refine SubH.cons 4 rfl ?_ | refine SubH.cons 5 rfl ?_ | refine SubH.cons 6 rfl ?_ | refine SubH.cons 7 rfl ?_ | refine SubH.cons 8 rfl ?_ | refine SubH.cons 9 rfl ?_ | refine SubH.cons 10 rfl ?_ | refine SubH.cons 11 rfl ?_ | refine SubH.cons 12 rfl ?_ | refine SubH.cons 13 rfl ?_ | refine SubH.rown ?_))) ?_
  rintro m Δ LL ⟨i, ⟨hm, hjl⟩, rfl, rfl⟩
  simp only [List.cons_append, List.nil_append]
  refine wp_seq' ?_
  refine wp_seq' ?_
  refine wp_region' ?_
  refine ops_ro' rfl (ro_move rfl) rfl ?_
  refine ops_ro' rfl (ro_move rfl) rfl ?_
  refine ops_ro' rfl (ro_sliceLen Try.underlying22 rfl) rfl ?_
  refine ops_ro' rfl (ro_lss rfl rfl rfl) rfl ?_
  refine ops_nil ?_
  refine Then_normal ?_
  refine wp_cond' rfl (fun hc8 => ?_) (fun hc8 => ?_)
  · replace hc8 := of_decide_eq_true hc8
    have hi : i < l.length := by omega
    refine wp_know (fun w F s => vw_ptr (Vw.pick (H := [V]) 0 rfl hV) s (by omega)) ?_
    rintro ⟨b0, o0, rfl⟩
    refine wp_skip' ?_
    refine Then_normal ?_
    refine wp_seq' ?_
    refine wp_block' ?_
    refine wp_cutK 1007 (fun Δ LL => ∃ (s : List UInt8), (s ++ l[i] = joinc 44 (l.take (i + 1)) ∧ s.length ≤ 140737488350001) ∧ Δ = [(3, .string (str s))] ∧ LL = [V]) (Has.cons (k := 0) rfl (Has.cons (k := 4) rfl (Has.nil _))) ?_ ?_
    · refine wp_seq' ?_
      refine wp_region' ?_
      refine ops_ro' rfl (ro_move rfl) rfl ?_
      refine ops_ro' rfl (ro_gtr rfl rfl rfl) rfl ?_
      refine ops_nil ?_
      refine Then_normal ?_
      refine wp_cond' rfl (fun hc12 => ?_) (fun hc12 => ?_)
      · replace hc12 := of_decide_eq_true hc12
        refine wp_region' ?_
        refine ops_ro' rfl (ro_move rfl) rfl ?_
        refine ops_ro' rfl (ro_addS rfl rfl (by first | omega | (simp only [List.length_append, List.length_cons, List.length_nil] at *; omega))) rfl ?_
        refine ops_ro' rfl (ro_assign rfl) rfl ?_
        refine ops_nil ?_
        refine Then_normal ?_
        refine over_cut (kept ⟨joinc 44 (l.take i) ++ [44], ⟨(jnc_succ hi (by omega)).symm, by simp only [List.length_append, List.length_cons, List.length_nil]; omega⟩, rfl, rfl⟩ ?_ ?_ ?_)
        · exact (by repeat (first | exact Has.nil _ | refine Has.cons rfl ?_))
        · exact (by repeat (first | exact Has.nil _ | refine Has.cons rfl ?_))
        · exact SubH.refl _
      · replace hc12 := of_decide_eq_false hc12
        refine wp_skip' ?_
        refine Then_normal ?_
        refine over_cut (kept ⟨joinc 44 (l.take i), ⟨(jnc_zero hi (by omega)).symm, by omega⟩, rfl, rfl⟩ ?_ ?_ ?_)
        · exact (by repeat (first | exact Has.nil _ | refine Has.cons rfl ?_))
        · exact (by repeat (first | exact Has.nil _ | refine Has.cons rfl ?_))
        · exact SubH.refl _
    · rintro Δ LL ⟨s, ⟨hs, hsl⟩, rfl, rfl⟩
      simp only [List.cons_append, List.nil_append]
      refine wp_region' ?_
      refine ops_ro' rfl (ro_move rfl) rfl ?_
      refine ops_ro' rfl (ro_move rfl) rfl ?_
      refine ops_ro' rfl (ro_move rfl) rfl ?_
      refine ops_ro' rfl (ro_indexSlice sl22 rfl rfl rfl (by omega)) rfl ?_
      refine ops_ro' rfl (ro_load sc9 rfl (Rd.pick 0 rfl (Rd.elem (j := 0) (vw_rdn hV) Tx.len (List.getElem?_eq_getElem hi) rfl))) rfl ?_
      refine ops_ro' rfl (ro_addS rfl rfl (by have := hx _ (List.getElem_mem hi); omega)) rfl ?_
      rw [hs]
      refine ops_ro' rfl (ro_assign rfl) rfl ?_
      refine ops_nil ?_
      refine InBlock_normal ?_
      refine Then_normal ?_
      refine wp_region' ?_
      refine ops_ro' rfl (ro_move rfl) rfl ?_
      refine ops_ro' rfl (ro_add rfl rfl (wrap_inc (by omega))) rfl ?_
      refine ops_ro' rfl (ro_assign rfl) rfl ?_
      refine ops_nil ?_
      refine Then_normal ?_
      refine back (m - 1) (by omega) (kept ⟨i + 1, ⟨by omega, hj _⟩, rfl, rfl⟩ ?_ ?_ ?_)
      · exact (by repeat (first | exact Has.nil _ | refine Has.cons rfl ?_))
      · exact (by repeat (first | exact Has.nil _ | refine Has.cons rfl ?_))
      · exact SubH.refl _
  · replace hc8 := of_decide_eq_false hc8
    rw [show l.take i = l from List.take_of_length_le (by omega)]
    refine wp_exit' ?_
    refine Then_exit ?_
    refine Then_exit ?_
    refine InBlock_here ?_
    refine Then_normal ?_
    refine wp_seq' ?_
    refine wp_region' ?_
    refine ops_ro' rfl (ro_move rfl) rfl ?_
    refine ops_ro' rfl (ro_assign rfl) rfl ?_
    refine ops_nil ?_
    refine Then_normal ?_
    refine wp_ret' ?_
    refine' doneS_ret (res1 rfl rfl) ?_ ?_
    rotate_left 1
    exact ⟨_, ⟨rfl, rfl⟩, rfl⟩
    exact SubH.refl _


theorem qwNames {V : HProp} (p : Option Addr) (c : Nat) (l : List UInt8) (hV : Vw V (.slice p l.length c) l.length (cel l)) (hl : l.length ≤ 140737488355320) (hl2 : l.length ≤ 1000000000) (q : Option Addr) (cq : Nat) (x : List (List UInt8)) (hVx : Vw V (.slice q x.length cq) x.length (txs x)) (hx : x.length ≤ 140737488355328) (hj : ∀ i, (joinc 44 (x.take i)).length ≤ 100000000000) (hxx : ∀ y ∈ x, y.length ≤ 140737488355328) :
    Tri Try.prog 123 [.slice p l.length c, .slice q x.length cq] [V] (fun v H' => ∃ K, (∃ p' c', v = .slice p' (l ++ be (joinc 44 x).length 4 ++ joinc 44 x).length c' ∧ K = [row 5 1 (.slice p' (l ++ be (joinc 44 x).length 4 ++ joinc 44 x).length c') (l ++ be (joinc 44 x).length 4 ++ joinc 44 x).length (cel (l ++ be (joinc 44 x).length 4 ++ joinc 44 x))]) ∧ H' = K ++ [V]) := by
  refine tri_of_wpS Try.func123 rfl Try.ntmps123 (by simp) ?_
  refine wp_seq' ?_
  refine wp_region' ?_
  refine ops_ro' rfl (ro_assign rfl) rfl ?_
  refine ops_nil ?_
  refine Then_normal ?_
  refine wp_seq' ?_
  refine wp_region' ?_
  refine ops_ro' rfl (ro_move rfl) rfl ?_
  refine ops_ro' rfl (ro_move rfl) rfl ?_
  refine ops_eff' rfl (eff_callM (Pre := []) Try.call125 rfl rfl (Split.nil _) (qwJoin q cq x (Vw.pick 0 rfl hVx) hx (fun i => Nat.le_trans (hj i) (by decide)) hxx)) rfl ?_
  rintro _ H' ⟨_, ⟨rfl, rfl⟩, hH⟩
  simp only [List.cons_append, List.nil_append, List.eraseIdx_cons_zero, List.eraseIdx_cons_succ, List.set_cons_zero, List.set_cons_succ] at hH
  subst hH
  refine ops_eff' rfl (eff_callM (Pre := []) Try.call44 rfl rfl (Split.nil _) (qwText p c l (Vw.pick 0 rfl hV) (by omega) (joinc 44 x) (by have := hj x.length; rw [List.take_length] at this; omega))) rfl ?_
  rintro _ H' ⟨_, ⟨p8, c8, rfl, rfl⟩, hH⟩
  simp only [List.cons_append, List.nil_append, List.eraseIdx_cons_zero, List.eraseIdx_cons_succ, List.set_cons_zero, List.set_cons_succ] at hH
  subst hH
  refine ops_ro' rfl (ro_assign rfl) rfl ?_
  refine ops_nil ?_
  refine Then_normal ?_
  refine wp_ret' ?_
  refine' doneS_ret (res1 rfl rfl) ?_ ?_
  rotate_left 1
  exact ⟨_, ⟨p8, c8, rfl, rfl⟩, rfl⟩
  exact SubH.refl _

end Go.Proofs.Ytigaolglnnjnmaa
