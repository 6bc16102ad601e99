/-
  The runs of chapter 11.
-/
import Derived.Test.YtigaolglnnjnmaaAuthG
namespace Go.Proofs.Ytigaolglnnjnmaa
open Go.Sx
set_option linter.unusedVariables false
set_option linter.unusedSimpArgs false
set_option maxRecDepth 100000
set_option maxHeartbeats 4000000

theorem Vw.subH {H L : List HProp} {v : Value} {n : Nat} {xs : List Value} (hs : SubH H L) (h : Vw (St L) v n xs) : Vw (St H) v n xs := fun w R s => h w R (hs w R s)
theorem wp_ansS {n : Nat} {c : Code} {Γ : Env} {H : List HProp} {Q : Post} {v : Value} {x : List UInt8} (i : Nat) (hi : H[i]? = some (ansP v (some x))) (h : ∀ b p k, v = .slice (some ⟨b, 0, none⟩) 1 1 → Wp Try.prog n c Γ (ans b p k x ++ H.eraseIdx i) Q) : Wp Try.prog n c Γ H Q := fun a w F f s => by
  have s1 := s
  rw [perm_front hi] at s1
  obtain ⟨K, hK, s2⟩ := ansP_open s1
  rcases hK with ⟨h0, _⟩ | ⟨x', b, p, k, hx, rfl, rfl⟩
  · cases h0
  · injection hx with hx; subst hx
    exact h b p k rfl a w F f (by rw [St_append, star_assoc]; exact s2)
theorem auDo_K (V : HProp) (bg : Nat) (p : Option Addr) (c : Nat) (g : Gs) (ht : g.tries ≤ 100000) (us : List Us) (hU : Vw V (.slice p us.length c) us.length (flat Us.cs us)) (hul : us.length ≤ 140737488355328) (pb : Option Addr) (b : List UInt8) (cb : Nat) (hB : Vw V (.slice pb b.length cb) b.length (cel b)) (hcb : b.length ≤ cb) (hbl : b.length ≤ 140737488355328) :
    Tri Try.prog 24 [.pointer (some ⟨bg, 0, none⟩), .slice pb b.length cb] [gt bg p us.length c g, V] (fun v H' => ∃ K, (K = [ansP v (gDo g us b).2, gt bg p us.length c (gDo g us b).1]) ∧ H' = K ++ [V]) :=
  tri_post (auDo_spec V bg p c g ht us hU hul pb b cb hB hcb hbl) fun v H' h => ⟨_, rfl, h⟩


theorem auNew_K (V : HProp) (q : Option Addr) (cq : Nat) (us : List Us) (hV : Vw V (.slice q us.length cq) us.length (flat Us.cs us)) (hl : us.length ≤ 1000000) : Tri Try.prog 23 [.slice q us.length cq] [V] (fun v H' => ∃ K, (∃ bg p c, v = .pointer (some ⟨bg, 0, none⟩) ∧ K = [gt bg p us.length c Gs.zero, row 30 2 (.slice p us.length c) us.length (flat Us.cs us)]) ∧ H' = K ++ [V]) :=
  tri_post (auNew_spec V q cq us hV hl) fun v H' ⟨bg, p, c, h1, h2⟩ => ⟨_, ⟨bg, p, c, h1, rfl⟩, h2⟩
theorem known11_spec (V : HProp) : Tri Try.prog 20 [] [V] (fun v H' => v = .bool true ∧ H' = [V]) := by
  refine tri_of_wpS Try.func20 rfl Try.ntmps20 (by simp) ?_
  refine wp_seq' ?_
  refine wp_region' ?_
  refine ops_ro' rfl (ro_assign rfl) rfl ?_
  refine ops_nil ?_
  refine Then_normal ?_
  refine wp_seq' ?_
  refine wp_region' ?_
  refine ops_ro' rfl (ro_build rfl (bld_struct (cs := Us.cs ⟨[117], [112]⟩) st30 rfl)) rfl ?_
  refine ops_eff' rfl (eff_lit sl31 rfl (sbld (cs := flat Us.cs [⟨[117], [112]⟩]) [(.string ByteArray.empty), (.string ByteArray.empty)] sl31 (by decide) (by kernel_rfl) rfl) rfl (by decide)) rfl ?_
  rintro _ _ ⟨b7, rfl, rfl⟩
  refine ops_eff' rfl (eff_callM (Pre := []) Try.call23 rfl rfl (Split.nil _) (auNew_K _ _ _ [⟨[117], [112]⟩] (by first | exact Vw.pick 0 rfl Vw.row | exact Vw.pick 1 rfl Vw.row | exact Vw.pick 2 rfl Vw.row | exact Vw.pick 3 rfl Vw.row | exact Vw.pick 4 rfl Vw.row | exact Vw.pick 5 rfl Vw.row | exact Vw.pick 6 rfl Vw.row | exact Vw.pick 7 rfl Vw.row | exact Vw.pick 8 rfl Vw.row | exact Vw.pick 9 rfl Vw.row | exact Vw.pick 10 rfl Vw.row | exact Vw.pick 11 rfl Vw.row | exact Vw.nil _ | exact Vw.empty _ _) (by decide))) rfl ?_
  rintro _ H' ⟨_, ⟨b8, p8, c8, rfl, rfl⟩, hH⟩
  simp only [List.cons_append, List.nil_append, List.eraseIdx_cons_zero, List.eraseIdx_cons_succ, List.set_cons_zero, List.set_cons_succ] at hH
  subst hH
  refine ops_ro' rfl (ro_assign rfl) rfl ?_
  refine ops_nil ?_
  refine Then_normal ?_
  refine wp_seq' ?_
  refine wp_seq' ?_
  refine wp_region' ?_
  refine ops_ro' rfl (ro_move rfl) rfl ?_
  refine ops_ro' rfl (ro_ptrEqlNil Try.underlying46 rfl rfl rfl) rfl ?_
  refine ops_nil ?_
  refine Then_normal ?_
  refine wp_condF rfl ?_
  refine wp_skip' ?_
  refine Then_normal ?_
  refine wp_seq' ?_
  refine wp_region' ?_
  refine ops_ro' rfl (ro_move rfl) rfl ?_
  refine ops_ro' rfl (ro_build rfl (bld_struct (cs := Ak.cs ⟨1, 0, [], [], [], [], none, 0⟩) st35 rfl)) rfl ?_
  refine ops_eff' rfl (eff_call Try.call16 rfl rfl (by repeat (first | exact Split.nil _ | apply Split.cons 0 rfl | apply Split.cons 1 rfl | apply Split.cons 2 rfl | apply Split.cons 3 rfl | apply Split.cons 4 rfl | apply Split.cons 5 rfl | apply Split.cons 6 rfl | apply Split.cons 7 rfl | apply Split.cons 8 rfl | apply Split.cons 9 rfl | apply Split.cons 10 rfl | apply Split.cons 11 rfl)) (payload_run V 1 0 [] [] [] [] none 0 (Vw.nil V) (Nat.le_refl _))) rfl ?_
  rintro _ H' ⟨_, ⟨A13, pp13, cc13, rfl, hv13, hc13, rfl⟩, hH⟩
  simp only [List.cons_append, List.nil_append, List.eraseIdx_cons_zero, List.eraseIdx_cons_succ, List.set_cons_zero, List.set_cons_succ] at hH
  subst hH
  refine ops_eff' rfl (eff_callM (Pre := [_]) Try.call24 rfl rfl (by repeat (first | exact Split.nil _ | apply Split.cons 0 rfl | apply Split.cons 1 rfl | apply Split.cons 2 rfl | apply Split.cons 3 rfl | apply Split.cons 4 rfl | apply Split.cons 5 rfl | apply Split.cons 6 rfl | apply Split.cons 7 rfl | apply Split.cons 8 rfl | apply Split.cons 9 rfl | apply Split.cons 10 rfl | apply Split.cons 11 rfl)) (auDo_K _ b8 p8 c8 Gs.zero (by decide) [⟨[117], [112]⟩] (by first | exact Vw.pick 0 rfl Vw.row | exact Vw.pick 1 rfl Vw.row | exact Vw.pick 2 rfl Vw.row | exact Vw.pick 3 rfl Vw.row | exact Vw.pick 4 rfl Vw.row | exact Vw.pick 5 rfl Vw.row | exact Vw.pick 6 rfl Vw.row | exact Vw.pick 7 rfl Vw.row | exact Vw.pick 8 rfl Vw.row | exact Vw.pick 9 rfl Vw.row | exact Vw.pick 10 rfl Vw.row | exact Vw.pick 11 rfl Vw.row | exact Vw.nil _ | exact Vw.empty _ _) (by decide) _ (payB ⟨1, 0, [], [], [], [], none, 0⟩) _ (Vw.subH (by repeat (first | exact SubH.nil _ | refine SubH.cons 0 rfl ?_ | refine SubH.cons 1 rfl ?_ | refine SubH.cons 2 rfl ?_ | refine SubH.cons 3 rfl ?_ | refine SubH.cons 4 rfl ?_ | refine SubH.cons 5 rfl ?_ | refine SubH.cons 6 rfl ?_ | refine SubH.cons 7 rfl ?_ | refine SubH.cons 8 rfl ?_ | refine SubH.cons 9 rfl ?_ | refine SubH.cons 10 rfl ?_ | refine SubH.cons 11 rfl ?_ | refine SubH.cons 12 rfl ?_ | refine SubH.cons 13 rfl ?_ | refine SubH.rown ?_)) hv13) hc13 (by rw [show (payB ⟨1, 0, [], [], [], [], none, 0⟩).length = _ from rfl]; decide))) rfl ?_
  rintro _ H' ⟨_, rfl, hH⟩
  simp only [List.cons_append, List.nil_append, List.eraseIdx_cons_zero, List.eraseIdx_cons_succ, List.set_cons_zero, List.set_cons_succ] at hH
  subst hH
  rw [show gDo Gs.zero [⟨[117], [112]⟩] (payB ⟨1, 0, [], [], [], [], none, 0⟩) = (⟨true, 0, [], false, false⟩, some [6, 0, 0, 0, 12, 115, 115, 104, 45, 117, 115, 101, 114, 97, 117, 116, 104]) from rfl]
  refine ops_ro' rfl (ro_assign rfl) rfl ?_
  refine ops_nil ?_
  refine Then_normal ?_
  refine wp_seq' ?_
  refine wp_region' ?_
  refine ops_ro' rfl (ro_move rfl) rfl ?_
  refine ops_ro' rfl (ro_build rfl (bld_struct (cs := Ak.cs ⟨2, 0, [117], [112], [], [], none, 0⟩) st35 rfl)) rfl ?_
  refine ops_eff' rfl (eff_call Try.call16 rfl rfl (by repeat (first | exact Split.nil _ | apply Split.cons 0 rfl | apply Split.cons 1 rfl | apply Split.cons 2 rfl | apply Split.cons 3 rfl | apply Split.cons 4 rfl | apply Split.cons 5 rfl | apply Split.cons 6 rfl | apply Split.cons 7 rfl | apply Split.cons 8 rfl | apply Split.cons 9 rfl | apply Split.cons 10 rfl | apply Split.cons 11 rfl)) (payload_run V 2 0 [117] [112] [] [] none 0 (Vw.nil V) (Nat.le_refl _))) rfl ?_
  rintro _ H' ⟨_, ⟨A17, pp17, cc17, rfl, hv17, hc17, rfl⟩, hH⟩
  simp only [List.cons_append, List.nil_append, List.eraseIdx_cons_zero, List.eraseIdx_cons_succ, List.set_cons_zero, List.set_cons_succ] at hH
  subst hH
  refine ops_eff' rfl (eff_callM (Pre := [_]) Try.call24 rfl rfl (by repeat (first | exact Split.nil _ | apply Split.cons 0 rfl | apply Split.cons 1 rfl | apply Split.cons 2 rfl | apply Split.cons 3 rfl | apply Split.cons 4 rfl | apply Split.cons 5 rfl | apply Split.cons 6 rfl | apply Split.cons 7 rfl | apply Split.cons 8 rfl | apply Split.cons 9 rfl | apply Split.cons 10 rfl | apply Split.cons 11 rfl)) (auDo_K _ b8 p8 c8 ⟨true, 0, [], false, false⟩ (by decide) [⟨[117], [112]⟩] (by first | exact Vw.pick 0 rfl Vw.row | exact Vw.pick 1 rfl Vw.row | exact Vw.pick 2 rfl Vw.row | exact Vw.pick 3 rfl Vw.row | exact Vw.pick 4 rfl Vw.row | exact Vw.pick 5 rfl Vw.row | exact Vw.pick 6 rfl Vw.row | exact Vw.pick 7 rfl Vw.row | exact Vw.pick 8 rfl Vw.row | exact Vw.pick 9 rfl Vw.row | exact Vw.pick 10 rfl Vw.row | exact Vw.pick 11 rfl Vw.row | exact Vw.nil _ | exact Vw.empty _ _) (by decide) _ (payB ⟨2, 0, [117], [112], [], [], none, 0⟩) _ (Vw.subH (by repeat (first | exact SubH.nil _ | refine SubH.cons 0 rfl ?_ | refine SubH.cons 1 rfl ?_ | refine SubH.cons 2 rfl ?_ | refine SubH.cons 3 rfl ?_ | refine SubH.cons 4 rfl ?_ | refine SubH.cons 5 rfl ?_ | refine SubH.cons 6 rfl ?_ | refine SubH.cons 7 rfl ?_ | refine SubH.cons 8 rfl ?_ | refine SubH.cons 9 rfl ?_ | refine SubH.cons 10 rfl ?_ | refine SubH.cons 11 rfl ?_ | refine SubH.cons 12 rfl ?_ | refine SubH.cons 13 rfl ?_ | refine SubH.rown ?_)) hv17) hc17 (by rw [show (payB ⟨2, 0, [117], [112], [], [], none, 0⟩).length = _ from rfl]; decide))) rfl ?_
  rintro _ H' ⟨_, rfl, hH⟩
  simp only [List.cons_append, List.nil_append, List.eraseIdx_cons_zero, List.eraseIdx_cons_succ, List.set_cons_zero, List.set_cons_succ] at hH
  subst hH
  rw [show gDo ⟨true, 0, [], false, false⟩ [⟨[117], [112]⟩] (payB ⟨2, 0, [117], [112], [], [], none, 0⟩) = (⟨true, 0, [117], true, false⟩, some [52]) from rfl]
  refine ops_ro' rfl (ro_assign rfl) rfl ?_
  refine ops_nil ?_
  refine Then_normal ?_
  refine wp_seq' ?_
  refine wp_region' ?_
  refine ops_ro' rfl (ro_move rfl) rfl ?_
  refine ops_eff' rfl (eff_call Try.call26 rfl rfl (by repeat (first | exact Split.nil _ | apply Split.cons 0 rfl | apply Split.cons 1 rfl | apply Split.cons 2 rfl | apply Split.cons 3 rfl | apply Split.cons 4 rfl | apply Split.cons 5 rfl | apply Split.cons 6 rfl | apply Split.cons 7 rfl | apply Split.cons 8 rfl | apply Split.cons 9 rfl | apply Split.cons 10 rfl | apply Split.cons 11 rfl)) (auUser_spec b8 p8 1 c8 ⟨true, 0, [117], true, false⟩)) rfl ?_
  rintro _ H' ⟨_, ⟨rfl, rfl⟩, hH⟩
  simp only [List.cons_append, List.nil_append, List.eraseIdx_cons_zero, List.eraseIdx_cons_succ, List.set_cons_zero, List.set_cons_succ] at hH
  subst hH
  refine ops_ro' rfl (ro_move rfl) rfl ?_
  refine ops_ro' rfl (ro_extract rfl rfl) rfl ?_
  refine ops_ro' rfl (ro_extract rfl rfl) rfl ?_
  refine ops_ro' rfl (ro_assign rfl) rfl ?_
  refine ops_ro' rfl (ro_assign rfl) rfl ?_
  refine ops_nil ?_
  refine Then_normal ?_
  refine wp_seq' ?_
  (first | refine wp_ansS (x := [6, 0, 0, 0, 12, 115, 115, 104, 45, 117, 115, 101, 114, 97, 117, 116, 104]) 0 rfl ?_ | refine wp_ansS (x := [6, 0, 0, 0, 12, 115, 115, 104, 45, 117, 115, 101, 114, 97, 117, 116, 104]) 1 rfl ?_ | refine wp_ansS (x := [6, 0, 0, 0, 12, 115, 115, 104, 45, 117, 115, 101, 114, 97, 117, 116, 104]) 2 rfl ?_ | refine wp_ansS (x := [6, 0, 0, 0, 12, 115, 115, 104, 45, 117, 115, 101, 114, 97, 117, 116, 104]) 3 rfl ?_ | refine wp_ansS (x := [6, 0, 0, 0, 12, 115, 115, 104, 45, 117, 115, 101, 114, 97, 117, 116, 104]) 4 rfl ?_ | refine wp_ansS (x := [6, 0, 0, 0, 12, 115, 115, 104, 45, 117, 115, 101, 114, 97, 117, 116, 104]) 5 rfl ?_ | refine wp_ansS (x := [6, 0, 0, 0, 12, 115, 115, 104, 45, 117, 115, 101, 114, 97, 117, 116, 104]) 6 rfl ?_ | refine wp_ansS (x := [6, 0, 0, 0, 12, 115, 115, 104, 45, 117, 115, 101, 114, 97, 117, 116, 104]) 7 rfl ?_)
  rintro ba pa ka rfl
  simp only [List.eraseIdx_cons_zero, List.eraseIdx_cons_succ, List.cons_append, List.nil_append]
  (first | refine wp_ansS (x := [52]) 0 rfl ?_ | refine wp_ansS (x := [52]) 1 rfl ?_ | refine wp_ansS (x := [52]) 2 rfl ?_ | refine wp_ansS (x := [52]) 3 rfl ?_ | refine wp_ansS (x := [52]) 4 rfl ?_ | refine wp_ansS (x := [52]) 5 rfl ?_ | refine wp_ansS (x := [52]) 6 rfl ?_ | refine wp_ansS (x := [52]) 7 rfl ?_)
  rintro bb pb kb rfl
  simp only [List.eraseIdx_cons_zero, List.eraseIdx_cons_succ, List.cons_append, List.nil_append]
  refine wp_region' ?_
  refine ops_ro' rfl (ro_move rfl) rfl ?_
  refine ops_ro' rfl (ro_sliceLen Try.underlying36 rfl) rfl ?_
  refine ops_ro' rfl (ro_eql rfl rfl (decide_eq_true (by omega))) rfl ?_
  refine ops_ro' rfl (ro_move (v := .bool true) rfl) rfl ?_
  refine ops_ro' rfl (ro_move rfl) rfl ?_
  refine ops_ro' rfl (ro_indexSlice sl36 rfl rfl rfl (by dsimp only; omega)) rfl ?_
  refine ops_ro' rfl (ro_load sc32 rfl (Rd.pick 2 rfl (Rd.row rfl))) rfl ?_
  refine ops_ro' rfl (ro_toStr Try.underlying32 Try.underlying5 Try.underlying9 rfl (Vw.pick 3 rfl Vw.row) rfl) rfl ?_
  refine ops_ro' rfl (ro_eqlS rfl rfl (decide_eq_true (by decide))) rfl ?_
  refine ops_ro' rfl (ro_pick rfl rfl) rfl ?_
  refine ops_ro' rfl (ro_move (v := .bool true) rfl) rfl ?_
  refine ops_ro' rfl (ro_move rfl) rfl ?_
  refine ops_ro' rfl (ro_sliceLen Try.underlying36 rfl) rfl ?_
  refine ops_ro' rfl (ro_eql rfl rfl (decide_eq_true (by omega))) rfl ?_
  refine ops_ro' rfl (ro_pick rfl rfl) rfl ?_
  refine ops_ro' rfl (ro_move (v := .bool true) rfl) rfl ?_
  refine ops_ro' rfl (ro_move rfl) rfl ?_
  refine ops_ro' rfl (ro_indexSlice sl36 rfl rfl rfl (by dsimp only; omega)) rfl ?_
  refine ops_ro' rfl (ro_load sc32 rfl (Rd.pick 0 rfl (Rd.row rfl))) rfl ?_
  refine ops_ro' rfl (ro_toStr Try.underlying32 Try.underlying5 Try.underlying9 rfl (Vw.pick 1 rfl Vw.row) rfl) rfl ?_
  refine ops_ro' rfl (ro_eqlS rfl rfl (decide_eq_true (by decide))) rfl ?_
  refine ops_ro' rfl (ro_pick rfl rfl) rfl ?_
  refine ops_ro' rfl (ro_move (v := .bool true) rfl) rfl ?_
  refine ops_ro' rfl (ro_move rfl) rfl ?_
  refine ops_ro' rfl (ro_eqlS rfl rfl (decide_eq_true (by decide))) rfl ?_
  refine ops_ro' rfl (ro_pick rfl rfl) rfl ?_
  refine ops_ro' rfl (ro_move (v := .bool true) rfl) rfl ?_
  refine ops_ro' rfl (ro_move rfl) rfl ?_
  refine ops_ro' rfl (ro_pick rfl rfl) rfl ?_
  refine ops_ro' rfl (ro_move (v := .bool true) rfl) rfl ?_
  refine ops_ro' rfl (ro_move rfl) rfl ?_
  refine ops_eff' rfl (eff_call Try.call27 rfl rfl (by repeat (first | exact Split.nil _ | apply Split.cons 0 rfl | apply Split.cons 1 rfl | apply Split.cons 2 rfl | apply Split.cons 3 rfl | apply Split.cons 4 rfl | apply Split.cons 5 rfl | apply Split.cons 6 rfl | apply Split.cons 7 rfl | apply Split.cons 8 rfl | apply Split.cons 9 rfl | apply Split.cons 10 rfl | apply Split.cons 11 rfl)) (auDead_spec b8 p8 1 c8 ⟨true, 0, [117], true, false⟩)) rfl ?_
  rintro _ H' ⟨_, ⟨rfl, rfl⟩, hH⟩
  simp only [List.cons_append, List.nil_append, List.eraseIdx_cons_zero, List.eraseIdx_cons_succ, List.set_cons_zero, List.set_cons_succ] at hH
  subst hH
  refine ops_ro' rfl (ro_not rfl rfl) rfl ?_
  refine ops_ro' rfl (ro_pick rfl rfl) rfl ?_
  refine ops_ro' rfl (ro_assign rfl) rfl ?_
  refine ops_nil ?_
  refine Then_normal ?_
  refine wp_ret' ?_
  refine' doneS_ret (res1 rfl rfl) ?_ ?_
  rotate_left 1
  exact ⟨rfl, rfl⟩
  exact (SubH.cons 6 rfl (SubH.nil _))

end Go.Proofs.Ytigaolglnnjnmaa
