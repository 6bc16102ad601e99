/-
  Package auth: the gate.
-/
import Derived.Test.YtigaolglnnjnmaaAuthA
import Derived.Test.YtigaolglnnjnmaaNames
namespace Go.Proofs.Ytigaolglnnjnmaa
open Go.Sx
set_option linter.unusedVariables false
set_option linter.unusedSimpArgs false
set_option maxRecDepth 100000
set_option maxHeartbeats 4000000

structure Gs where
  sv : Bool
  tries : Nat
  user : List UInt8
  inn : Bool
  dead : Bool
def Gs.zero : Gs := ⟨false, 0, [], false, false⟩
abbrev gt (bg : Nat) (p : Option Addr) (k c : Nat) (g : Gs) : HProp := own bg (.cells #[.slice p k c, .bool g.sv, .int .i64 (g.tries : Int), .string (str g.user), .bool g.inn, .bool g.dead] 99 (0, 0))
/-- one payload as an answer -/
abbrev ans (b : Nat) (p : Option Addr) (c : Nat) (x : List UInt8) : List HProp := [row 32 1 (.slice (some ⟨b, 0, none⟩) 1 1) 1 [.slice p x.length c], row 5 1 (.slice p x.length c) x.length (cel x)]
def Ans (v : Value) (o : Option (List UInt8)) (K : List HProp) : Prop := (o = none ∧ v = .slice none 0 0 ∧ K = []) ∨ ∃ x b p c, o = some x ∧ v = .slice (some ⟨b, 0, none⟩) 1 1 ∧ K = ans b p c x
/-- an answer, as one thing -/
def ansP (v : Value) (o : Option (List UInt8)) : HProp := fun c h => ∃ K, Ans v o K ∧ St K c h
theorem ansP_open {v : Value} {o : Option (List UInt8)} {w : World} {R : HProp} (s : sat w (star (ansP v o) R)) : ∃ K, Ans v o K ∧ sat w (star (St K) R) := by
  obtain ⟨h, ⟨g, k, hs, rfl, ⟨K, hK, hg⟩, hk⟩, hf⟩ := s
  exact ⟨K, hK, _, ⟨g, k, hs, rfl, hg, hk⟩, hf⟩
theorem ansP_mk {v : Value} {o : Option (List UInt8)} {K H : List HProp} (hK : Ans v o K) : SubH (K ++ H) (ansP v o :: H) := fun w F s => by
  rw [St_append, star_assoc] at s
  rw [St_cons, star_assoc]
  exact sat_star_mono (fun c k hk => ⟨K, hK, hk⟩) (fun _ _ h => h) s
theorem ansP_fold {b c : Nat} {p : Option Addr} {x : List UInt8} {H : List HProp} : SubH (ans b p c x ++ H) (ansP (.slice (some ⟨b, 0, none⟩) 1 1) (some x) :: H) := ansP_mk (.inr ⟨x, b, p, c, rfl, rfl, rfl⟩)
theorem ansP_none (H : List HProp) : SubH H (ansP (.slice none 0 0) none :: H) := ansP_mk (K := []) (.inl ⟨rfl, rfl, rfl⟩)
theorem doneS_pre {fn : Func} {n : Nat} {Ψ : Value → List HProp → Prop} {Γ : Env} {H H2 : List HProp} (hs : SubH H H2) (h : DoneS Try.prog fn n Ψ .ret Γ H2) : DoneS Try.prog fn n Ψ .ret Γ H := by
  obtain ⟨v, L, h1, h2, h3⟩ := h
  exact ⟨v, L, fun a w F f s => h1 a w F f (hs w F s), h2, hs.trans h3⟩
theorem tri_ans {f : FuncId} {args : List Value} {v : Value} {o : Option (List UInt8)} {H : List HProp} {Ψ : Value → List HProp → Prop} (h : ∀ K, Ans v o K → Tri Try.prog f args (K ++ H) Ψ) : Tri Try.prog f args (ansP v o :: H) Ψ := fun w F s => by
  rw [St_cons, star_assoc] at s
  obtain ⟨K, hK, s⟩ := ansP_open s
  exact h K hK w F (by rw [St_append, star_assoc]; exact s)
def byeB (n : Nat) : List UInt8 := [b8 1] ++ be n 4 ++ be 0 4 ++ be 0 4


theorem auBye_spec (n : Nat) (hn : n < 4294967296) : Tri Try.prog 18 [.int .u32 (n : Int)] [] (fun v H' => ∃ p c, v = .slice p (byeB n).length c ∧ H' = [row 5 1 (.slice p (byeB n).length c) (byeB n).length (cel (byeB n))]) := by
  refine tri_of_wpS Try.func18 rfl Try.ntmps18 (by simp) ?_
  refine wp_seq' ?_
  refine wp_region' ?_
  refine ops_ro' rfl (ro_assign rfl) rfl ?_
  refine ops_nil ?_
  refine Then_normal ?_
  refine wp_seq' ?_
  refine wp_region' ?_
  refine ops_eff' rfl (eff_call Try.call48 rfl rfl (by repeat (first | exact Split.nil _ | apply Split.cons 0 rfl | apply Split.cons 1 rfl | apply Split.cons 2 rfl | apply Split.cons 3 rfl | apply Split.cons 4 rfl | apply Split.cons 5 rfl | apply Split.cons 6 rfl | apply Split.cons 7 rfl | apply Split.cons 8 rfl | apply Split.cons 9 rfl | apply Split.cons 10 rfl | apply Split.cons 11 rfl)) (newWriter_spec)) rfl ?_
  rintro _ H' ⟨_, ⟨pw, rfl, rfl⟩, hH⟩
  simp only [List.cons_append, List.nil_append, List.eraseIdx_cons_zero, List.eraseIdx_cons_succ, List.set_cons_zero, List.set_cons_succ] at hH
  subst hH
  refine ops_ro' rfl (ro_assign rfl) rfl ?_
  refine ops_nil ?_
  refine Then_normal ?_
  refine wp_seq' ?_
  refine wp_region' ?_
  refine ops_ro' rfl (ro_move rfl) rfl ?_
  refine ops_eff' rfl (eff_call Try.call49 rfl rfl (by repeat (first | exact Split.nil _ | apply Split.cons 0 rfl | apply Split.cons 1 rfl | apply Split.cons 2 rfl | apply Split.cons 3 rfl | apply Split.cons 4 rfl | apply Split.cons 5 rfl | apply Split.cons 6 rfl | apply Split.cons 7 rfl | apply Split.cons 8 rfl | apply Split.cons 9 rfl | apply Split.cons 10 rfl | apply Split.cons 11 rfl)) (byte_spec pw none 0 [] 1 (by decide))) rfl ?_
  rintro _ H' ⟨_, ⟨p6, c6, rfl, rfl⟩, hH⟩
  simp only [List.cons_append, List.nil_append, List.eraseIdx_cons_zero, List.eraseIdx_cons_succ, List.set_cons_zero, List.set_cons_succ] at hH
  subst hH
  refine ops_nil ?_
  refine Then_normal ?_
  refine wp_seq' ?_
  refine wp_region' ?_
  refine ops_ro' rfl (ro_move rfl) rfl ?_
  refine ops_ro' rfl (ro_move rfl) rfl ?_
  refine ops_eff' rfl (eff_call Try.call50 rfl rfl (by repeat (first | exact Split.nil _ | apply Split.cons 0 rfl | apply Split.cons 1 rfl | apply Split.cons 2 rfl | apply Split.cons 3 rfl | apply Split.cons 4 rfl | apply Split.cons 5 rfl | apply Split.cons 6 rfl | apply Split.cons 7 rfl | apply Split.cons 8 rfl | apply Split.cons 9 rfl | apply Split.cons 10 rfl | apply Split.cons 11 rfl)) (u32_at pw p6 c6 [b8 1] n _ rfl hn (by simp))) rfl ?_
  rintro _ H' ⟨_, ⟨p9, c9, rfl, rfl⟩, hH⟩
  simp only [List.cons_append, List.nil_append, List.eraseIdx_cons_zero, List.eraseIdx_cons_succ, List.set_cons_zero, List.set_cons_succ] at hH
  subst hH
  obtain ⟨a9, ha9⟩ : ∃ z, z = b8 1 :: be n 4 := ⟨_, rfl⟩
  rw [← ha9]
  have hl9 : a9.length ≤ 5 := by rw [ha9]; simp only [List.length_append, be_length, List.length_cons, List.length_nil]; omega
  refine ops_nil ?_
  refine Then_normal ?_
  refine wp_seq' ?_
  refine wp_region' ?_
  refine ops_ro' rfl (ro_move rfl) rfl ?_
  refine ops_eff' rfl (eff_call Try.call51 rfl rfl (by repeat (first | exact Split.nil _ | apply Split.cons 0 rfl | apply Split.cons 1 rfl | apply Split.cons 2 rfl | apply Split.cons 3 rfl | apply Split.cons 4 rfl | apply Split.cons 5 rfl | apply Split.cons 6 rfl | apply Split.cons 7 rfl | apply Split.cons 8 rfl | apply Split.cons 9 rfl | apply Split.cons 10 rfl | apply Split.cons 11 rfl)) (text_at pw p9 c9 a9 [] (by simp; omega))) rfl ?_
  rintro _ H' ⟨_, ⟨p11, c11, rfl, rfl⟩, hH⟩
  simp only [List.cons_append, List.nil_append, List.eraseIdx_cons_zero, List.eraseIdx_cons_succ, List.set_cons_zero, List.set_cons_succ] at hH
  subst hH
  obtain ⟨a11, ha11⟩ : ∃ z, z = a9 ++ be ([] : List UInt8).length 4 ++ [] := ⟨_, rfl⟩
  rw [← ha11]
  have hl11 : a11.length ≤ 9 := by rw [ha11]; simp only [List.length_append, be_length, List.length_cons, List.length_nil]; omega
  refine ops_nil ?_
  refine Then_normal ?_
  refine wp_seq' ?_
  refine wp_region' ?_
  refine ops_ro' rfl (ro_move rfl) rfl ?_
  refine ops_eff' rfl (eff_call Try.call51 rfl rfl (by repeat (first | exact Split.nil _ | apply Split.cons 0 rfl | apply Split.cons 1 rfl | apply Split.cons 2 rfl | apply Split.cons 3 rfl | apply Split.cons 4 rfl | apply Split.cons 5 rfl | apply Split.cons 6 rfl | apply Split.cons 7 rfl | apply Split.cons 8 rfl | apply Split.cons 9 rfl | apply Split.cons 10 rfl | apply Split.cons 11 rfl)) (text_at pw p11 c11 a11 [] (by simp; omega))) rfl ?_
  rintro _ H' ⟨_, ⟨p13, c13, rfl, rfl⟩, hH⟩
  simp only [List.cons_append, List.nil_append, List.eraseIdx_cons_zero, List.eraseIdx_cons_succ, List.set_cons_zero, List.set_cons_succ] at hH
  subst hH
  obtain ⟨a13, ha13⟩ : ∃ z, z = a11 ++ be ([] : List UInt8).length 4 ++ [] := ⟨_, rfl⟩
  rw [← ha13]
  have hl13 : a13.length ≤ 13 := by rw [ha13]; simp only [List.length_append, be_length, List.length_cons, List.length_nil]; omega
  refine ops_nil ?_
  refine Then_normal ?_
  refine wp_seq' ?_
  refine wp_region' ?_
  refine ops_ro' rfl (ro_move rfl) rfl ?_
  refine ops_eff' rfl (eff_call Try.call52 rfl rfl (by repeat (first | exact Split.nil _ | apply Split.cons 0 rfl | apply Split.cons 1 rfl | apply Split.cons 2 rfl | apply Split.cons 3 rfl | apply Split.cons 4 rfl | apply Split.cons 5 rfl | apply Split.cons 6 rfl | apply Split.cons 7 rfl | apply Split.cons 8 rfl | apply Split.cons 9 rfl | apply Split.cons 10 rfl | apply Split.cons 11 rfl)) (done_spec pw p13 c13 a13 (by omega))) rfl ?_
  rintro _ H' ⟨_, ⟨p15, c15, rfl, _, rfl⟩, hH⟩
  simp only [List.cons_append, List.nil_append, List.eraseIdx_cons_zero, List.eraseIdx_cons_succ, List.set_cons_zero, List.set_cons_succ] at hH
  subst hH
  obtain rfl : a13 = byeB n := by rw [ha13, ha11, ha9]; simp [byeB]
  refine ops_ro' rfl (ro_assign rfl) rfl ?_
  refine ops_nil ?_
  refine Then_normal ?_
  refine wp_ret' ?_
  refine' doneS_ret (res1 rfl rfl) ?_ ?_
  rotate_left 1
  exact ⟨p15, c15, rfl, rfl⟩
  exact (SubH.cons 0 rfl (SubH.nil _))
theorem auEnd_spec (bg : Nat) (p : Option Addr) (k c : Nat) (g : Gs) (n : Nat) (hn : n < 4294967296) : Tri Try.prog 58 [.pointer (some ⟨bg, 0, none⟩), .int .u32 (n : Int)] [gt bg p k c g] (fun v H' => H' = [ansP v (some (byeB n)), gt bg p k c { g with dead := true }]) := by
  refine tri_of_wpS Try.func58 rfl Try.ntmps58 (by simp) ?_
  refine wp_seq' ?_
  refine wp_region' ?_
  refine ops_ro' rfl (ro_assign rfl) rfl ?_
  refine ops_nil ?_
  refine Then_normal ?_
  refine wp_seq' ?_
  refine wp_region' ?_
  refine ops_ro' rfl (ro_move rfl) rfl ?_
  refine ops_ro' rfl (ro_nilCheck rfl) rfl ?_
  refine ops_ro' rfl (ro_fieldAddr fa99_5 rfl) rfl ?_
  refine ops_eff0 rfl (eff_store 0 sc4 rfl rfl rfl rfl (Nat.le_of_ble_eq_true rfl) (warm_zero _)) rfl ?_
  rintro _ _ rfl
  refine ops_nil ?_
  refine Then_normal ?_
  refine wp_seq' ?_
  refine wp_region' ?_
  refine ops_ro' rfl (ro_move rfl) rfl ?_
  refine ops_eff' rfl (eff_call Try.call18 rfl rfl (by repeat (first | exact Split.nil _ | apply Split.cons 0 rfl | apply Split.cons 1 rfl | apply Split.cons 2 rfl | apply Split.cons 3 rfl | apply Split.cons 4 rfl | apply Split.cons 5 rfl | apply Split.cons 6 rfl | apply Split.cons 7 rfl | apply Split.cons 8 rfl | apply Split.cons 9 rfl | apply Split.cons 10 rfl | apply Split.cons 11 rfl)) (auBye_spec n hn)) rfl ?_
  rintro _ H' ⟨_, ⟨p9, c9, rfl, rfl⟩, hH⟩
  simp only [List.cons_append, List.nil_append, List.eraseIdx_cons_zero, List.eraseIdx_cons_succ, List.set_cons_zero, List.set_cons_succ] at hH
  subst hH
  refine ops_eff' rfl (eff_lit sl36 rfl (sbld (cs := [_]) [(.slice none 0 0)] sl36 (by decide) (by kernel_rfl) rfl) rfl (by decide)) rfl ?_
  rintro _ _ ⟨b10, rfl, rfl⟩
  refine ops_ro' rfl (ro_assign rfl) rfl ?_
  refine ops_nil ?_
  refine Then_normal ?_
  refine wp_ret' ?_
  refine doneS_pre ansP_fold ?_
  refine' doneS_ret (res1 rfl rfl) ?_ ?_
  rotate_left 1
  exact rfl
  exact SubH.refl _

end Go.Proofs.Ytigaolglnnjnmaa
