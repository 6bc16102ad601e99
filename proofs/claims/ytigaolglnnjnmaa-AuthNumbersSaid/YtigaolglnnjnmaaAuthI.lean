/-
  The walk of AuthService.
-/
import Derived.Test.YtigaolglnnjnmaaAuthH
namespace Go.Proofs.Ytigaolglnnjnmaa
open Go.Sx
set_option linter.unusedVariables false
set_option linter.unusedSimpArgs false
set_option maxRecDepth 100000
set_option maxHeartbeats 4000000

theorem ops_ansN {n : Nat} {ops : Array Oper} {l : List Oper} {Γ : Env} {H : List HProp} {Q : Post} {v : Value} (i : Nat) (hi : H[i]? = some (ansP v none)) (h : v = .slice none 0 0 → Ops Try.prog n ops l Γ (H.eraseIdx i) Q) : Ops Try.prog n ops l Γ H Q := fun a w F f s => by
  have s1 := s
  rw [perm_front hi] at s1
  obtain ⟨K, hK, s2⟩ := ansP_open s1
  rcases hK with ⟨_, rfl, rfl⟩ | ⟨x', b, p, k, hx, _⟩
  · exact h rfl a w F f (by rw [St_nil, emp_star] at s2; exact s2)
  · cases hx
theorem payB_len (x : Ak) : (payB x).length ≤ 600 := by
  have h1 : (x.user.take 66).length ≤ 66 := by rw [List.length_take]; omega
  have h2 : (x.pass.take 66).length ≤ 66 := by rw [List.length_take]; omega
  have h3 : (x.name.take 66).length ≤ 66 := by rw [List.length_take]; omega
  have h4 : (x.b.take 100).length ≤ 100 := by rw [List.length_take]; omega
  have h5 : tAuth.length = 12 := rfl
  have h6 : tConn.length = 14 := rfl
  have h7 : tPass.length = 8 := rfl
  unfold payB
  repeat' split
  all_goals first | omega | (simp only [List.length_append, be_length, List.length_cons, List.length_nil]; omega)
/-- nothing is answered where all is quiet; else the gate is dead -/
def Srv (x : List UInt8) (o : Option (List UInt8)) (dd : Bool) : Prop := ((∀ h0 : 0 < x.length, 2 ≤ x[0].toNat ∧ x[0].toNat ≤ 4) → o = none) ∧ (∀ h0 : 0 < x.length, ¬ (2 ≤ x[0].toNat ∧ x[0].toNat ≤ 4) → dd = true)
theorem serv_step {g : Gs} {us : List Us} {x : List UInt8} (h1 : g.sv = false) (h2 : g.inn = false) (h5 : ∀ h0 : 0 < x.length, x[0].toNat ≠ 5) :
    (gDo g us x).1.sv = false ∧ (gDo g us x).1.inn = false ∧ (gDo g us x).1.tries = g.tries ∧ Srv x (gDo g us x).2 (gDo g us x).1.dead := by
  cases x with
  | nil => exact ⟨h1, h2, rfl, fun _ => rfl, fun h0 => absurd h0 (by simp)⟩
  | cons y r =>
    have h5' : y.toNat ≠ 5 := h5 (by simp)
    rw [gDo_cons]
    by_cases hd : g.dead = true
    · rw [if_pos hd]; exact ⟨h1, h2, rfl, fun _ => rfl, fun _ _ => hd⟩
    · rw [if_neg hd]
      by_cases k1 : y.toNat = 1
      · rw [if_pos k1]; exact ⟨h1, h2, rfl, fun _ => rfl, fun _ _ => rfl⟩
      · rw [if_neg k1]
        by_cases k2 : y.toNat = 2 ∨ y.toNat = 3 ∨ y.toNat = 4
        · rw [if_pos k2]; exact ⟨h1, h2, rfl, fun _ => rfl, fun h0 h => absurd (show 2 ≤ y.toNat ∧ y.toNat ≤ 4 by omega) h⟩
        · rw [if_neg k2, if_neg h5']
          have q : ∀ h0 : 0 < (y :: r).length, ¬ (2 ≤ ((y :: r)[0]).toNat ∧ ((y :: r)[0]).toNat ≤ 4) := fun h0 h => k2 (by have h' : 2 ≤ y.toNat ∧ y.toNat ≤ 4 := h; omega)
          by_cases k3 : y.toNat = 50
          · rw [if_pos k3]
            have e : gLogin g us (R.new r) = gEnd g 2 := by unfold gLogin gLogE; rw [if_pos (.inr h1)]
            rw [e]; exact ⟨h1, h2, rfl, fun h => absurd (h (by simp)) (q (by simp)), fun _ _ => rfl⟩
          · rw [if_neg k3]; exact ⟨h1, h2, rfl, fun h => absurd (h (by simp)) (q (by simp)), fun _ _ => rfl⟩
theorem authserv_run (V : HProp) (q : Option Addr) (cq : Nat) (l : List Us) (hV : Vw V (.slice q l.length cq) l.length (flat Us.cs l)) (hlq : l.length ≤ 9223372036854775807) (qa : Option Addr) (ca : Nat) (a : List Ak) (hVa : Vw V (.slice qa a.length ca) a.length (flat Ak.cs a)) (hA : ∀ x ∈ a, Vw V (.slice x.p x.b.length x.c) x.b.length (cel x.b) ∧ x.b.length ≤ x.c) :
    Tri Try.prog 8 [.slice q l.length cq, .slice qa a.length ca] [V] (fun v H' => v = .bool true ∧ H' = [V]) := by
  refine tri_of_wpS Try.func8 rfl Try.ntmps8 (by simp) ?_
  refine wp_seq' ?_
  refine wp_region' ?_
  refine ops_ro' rfl (ro_assign rfl) rfl ?_
  refine ops_nil ?_
  refine Then_normal ?_
  refine wp_seq' ?_
  refine wp_region' ?_
  refine ops_ro' rfl (ro_move rfl) rfl ?_
  refine ops_eff' rfl (eff_call Try.call21 rfl rfl (by repeat (first | exact Split.nil _ | apply Split.cons 0 rfl | apply Split.cons 1 rfl | apply Split.cons 2 rfl | apply Split.cons 3 rfl | apply Split.cons 4 rfl | apply Split.cons 5 rfl | apply Split.cons 6 rfl | apply Split.cons 7 rfl | apply Split.cons 8 rfl | apply Split.cons 9 rfl | apply Split.cons 10 rfl | apply Split.cons 11 rfl)) (users_spec V q cq l hV hlq)) rfl ?_
  rintro _ H' ⟨_, ⟨_, ⟨p13, c13, rfl, rfl⟩, rfl⟩, hH⟩
  simp only [List.cons_append, List.nil_append, List.eraseIdx_cons_zero, List.eraseIdx_cons_succ, List.set_cons_zero, List.set_cons_succ] at hH
  subst hH
  have hus : (usr (l.take 5)).length ≤ 5 := by rw [usr, List.length_map, List.length_take]; omega
  generalize usr (l.take 5) = us at *
  refine ops_eff' rfl (eff_callM (Pre := []) Try.call23 rfl rfl (Split.nil _) (auNew_K _ _ _ us (by first | exact Vw.pick 0 rfl Vw.row | exact Vw.pick 1 rfl Vw.row | exact Vw.pick 2 rfl Vw.row | exact Vw.pick 3 rfl Vw.row | exact Vw.pick 4 rfl Vw.row | exact Vw.pick 5 rfl Vw.row | exact Vw.pick 6 rfl Vw.row | exact Vw.pick 7 rfl Vw.row | exact Vw.pick 8 rfl Vw.row | exact Vw.nil _ | exact Vw.empty _ _) (by omega))) rfl ?_
  rintro _ H' ⟨_, ⟨bg, p, c, rfl, rfl⟩, hH⟩
  simp only [List.cons_append, List.nil_append, List.eraseIdx_cons_zero, List.eraseIdx_cons_succ, List.set_cons_zero, List.set_cons_succ] at hH
  subst hH
  refine ops_ro' rfl (ro_assign rfl) rfl ?_
  refine ops_nil ?_
  refine Then_normal ?_
  refine wp_seq' ?_
  refine wp_seq' ?_
  refine wp_region' ?_
  refine ops_ro' rfl (ro_move rfl) rfl ?_
  refine ops_ro' rfl (ro_ptrEqlNil Try.underlying46 rfl rfl rfl) rfl ?_
  refine ops_nil ?_
  refine Then_normal ?_
  refine wp_condF rfl ?_
  refine wp_skip' ?_
  refine Then_normal ?_
  refine wp_seq' ?_
  refine wp_seq' ?_
  refine wp_region' ?_
  refine ops_ro' rfl (ro_assign rfl) rfl ?_
  refine ops_nil ?_
  refine Then_normal ?_
  refine wp_block' ?_
  refine wp_loopK 5 (fun m Δ LL => ∃ (i : Nat) (g : Gs), (i + m = a.length ∧ i ≤ 15 ∧ g.sv = false ∧ g.inn = false ∧ g.tries = 0) ∧ Δ = [(6, .int .i64 (i : Nat))] ∧ LL = [gt bg p us.length c g, row 30 2 (.slice p us.length c) us.length (flat Us.cs us), V]) (m := a.length) (Has.cons (k := 1) rfl (Has.cons (k := 5) rfl (Has.nil _))) (kept ⟨0, Gs.zero, ⟨by omega, by omega, rfl, rfl, rfl⟩, rfl, rfl⟩ (by repeat (first | exact Has.nil _ | refine Has.cons rfl ?_)) (by repeat (first | exact Has.nil _ | refine Has.cons rfl ?_)) (by repeat (first | exact SubH.nil _ | refine SubH.cons 0 rfl ?_ | refine SubH.cons 1 rfl ?_ | refine SubH.cons 2 rfl ?_ | refine SubH.cons 3 rfl ?_ | refine SubH.cons 4 rfl ?_ | refine SubH.cons 5 rfl ?_ | refine SubH.cons 6 rfl ?_ | refine SubH.cons 7 rfl ?_ | refine SubH.cons 8 rfl ?_ | refine SubH.cons 9 rfl ?_ | refine SubH.cons 10 rfl ?_ | refine SubH.cons 11 rfl ?_ | refine SubH.cons 12 rfl ?_ | refine SubH.cons 13 rfl ?_ | refine SubH.rown ?_))) ?_
  rintro m Δ LL ⟨i, g, ⟨hm, hi15, hg1, hg2, hg3⟩, rfl, rfl⟩
  simp only [List.cons_append, List.nil_append]
  refine wp_seq' ?_
  refine wp_seq' ?_
  refine wp_region' ?_
  refine ops_ro' rfl (ro_move rfl) rfl ?_
  refine ops_ro' rfl (ro_move rfl) rfl ?_
  refine ops_ro' rfl (ro_sliceLen Try.underlying41 rfl) rfl ?_
  refine ops_ro' rfl (ro_lss rfl rfl rfl) rfl ?_
  refine ops_split rfl rfl rfl (fun hg21 => ?_) (fun hg21 => ?_)
  · replace hg21 := of_decide_eq_true hg21
    refine ops_ro' rfl (ro_move rfl) rfl ?_
    refine ops_ro' rfl (ro_lss rfl rfl rfl) rfl ?_
    refine ops_ro' rfl (ro_pick rfl rfl) rfl ?_
    refine ops_nil ?_
    refine Then_normal ?_
    refine wp_cond' rfl (fun hc24 => ?_) (fun hc24 => ?_)
    · replace hc24 := of_decide_eq_true hc24
      refine wp_skip' ?_
      refine Then_normal ?_
      refine wp_seq' ?_
      refine wp_block' ?_
      refine wp_seq' ?_
      have hi : i < a.length := by omega
      obtain ⟨hB, hBc⟩ := hA a[i] (List.getElem_mem hi)
      refine wp_know (fun w F s => vw_ptr (Vw.pick (H := [_, _, V]) 2 rfl hVa) s (by omega)) ?_
      rintro ⟨b7, o7, rfl⟩
      refine wp_region' ?_
      refine ops_ro' rfl (ro_move rfl) rfl ?_
      refine ops_ro' rfl (ro_move rfl) rfl ?_
      refine ops_ro' rfl (ro_indexSlice sl41 rfl rfl rfl (by omega)) rfl ?_
      refine ops_ro' rfl (ro_loadA ag35 rfl (RdN.of_pick 2 rfl ((RdN.elem (vw_rdn hVa) Ak.len (List.getElem?_eq_getElem hi)))) rfl) rfl ?_
      refine ops_eff' rfl (eff_call Try.call16 rfl rfl (by repeat (first | exact Split.nil _ | apply Split.cons 0 rfl | apply Split.cons 1 rfl | apply Split.cons 2 rfl | apply Split.cons 3 rfl | apply Split.cons 4 rfl | apply Split.cons 5 rfl | apply Split.cons 6 rfl | apply Split.cons 7 rfl | apply Split.cons 8 rfl | apply Split.cons 9 rfl | apply Split.cons 10 rfl | apply Split.cons 11 rfl)) (payload_run V a[i].kind a[i].n a[i].user a[i].pass a[i].name a[i].b a[i].p a[i].c hB hBc)) rfl ?_
      rintro _ H' ⟨_, ⟨A31, pp, cc, rfl, hv, hc, rfl⟩, hH⟩
      simp only [List.cons_append, List.nil_append, List.eraseIdx_cons_zero, List.eraseIdx_cons_succ, List.set_cons_zero, List.set_cons_succ] at hH
      subst hH
      have hxl := payB_len ⟨a[i].kind, a[i].n, a[i].user, a[i].pass, a[i].name, a[i].b, a[i].p, a[i].c⟩
      generalize payB ⟨a[i].kind, a[i].n, a[i].user, a[i].pass, a[i].name, a[i].b, a[i].p, a[i].c⟩ = x at *
      refine ops_ro' rfl (ro_assign rfl) rfl ?_
      refine ops_nil ?_
      refine Then_normal ?_
      refine wp_seq' ?_
      refine wp_seq' ?_
      refine wp_region' ?_
      refine ops_ro' rfl (ro_move rfl) rfl ?_
      refine ops_ro' rfl (ro_sliceLen Try.underlying32 rfl) rfl ?_
      refine ops_ro' rfl (ro_gtr rfl rfl rfl) rfl ?_
      refine ops_split rfl rfl rfl (fun hg35 => ?_) (fun hg35 => ?_)
      · replace hg35 := of_decide_eq_true hg35
        have h0 : 0 < x.length := by omega
        refine ops_know (fun w F s => vw_ptr (Vw.subH (by repeat (first | exact SubH.nil _ | refine SubH.cons 0 rfl ?_ | refine SubH.cons 1 rfl ?_ | refine SubH.cons 2 rfl ?_ | refine SubH.cons 3 rfl ?_ | refine SubH.cons 4 rfl ?_ | refine SubH.cons 5 rfl ?_ | refine SubH.cons 6 rfl ?_ | refine SubH.cons 7 rfl ?_ | refine SubH.cons 8 rfl ?_ | refine SubH.cons 9 rfl ?_ | refine SubH.cons 10 rfl ?_ | refine SubH.cons 11 rfl ?_ | refine SubH.cons 12 rfl ?_ | refine SubH.cons 13 rfl ?_ | refine SubH.rown ?_)) hv) s (by omega)) ?_
        rintro ⟨b9, o9, rfl⟩
        refine ops_ro' rfl (ro_move rfl) rfl ?_
        refine ops_ro' rfl (ro_indexSlice sl32 rfl rfl rfl (by omega)) rfl ?_
        refine ops_ro' rfl (ro_load sc5 rfl (Rd.of_n (vw_rdn (Vw.subH (by repeat (first | exact SubH.nil _ | refine SubH.cons 0 rfl ?_ | refine SubH.cons 1 rfl ?_ | refine SubH.cons 2 rfl ?_ | refine SubH.cons 3 rfl ?_ | refine SubH.cons 4 rfl ?_ | refine SubH.cons 5 rfl ?_ | refine SubH.cons 6 rfl ?_ | refine SubH.cons 7 rfl ?_ | refine SubH.cons 8 rfl ?_ | refine SubH.cons 9 rfl ?_ | refine SubH.cons 10 rfl ?_ | refine SubH.cons 11 rfl ?_ | refine SubH.cons 12 rfl ?_ | refine SubH.cons 13 rfl ?_ | refine SubH.rown ?_)) hv)) (j := 0) (by first | rfl | omega) (cel_get h0))) rfl ?_
        refine ops_ro' rfl (ro_eql rfl rfl rfl) rfl ?_
        refine ops_ro' rfl (ro_pick rfl rfl) rfl ?_
        refine ops_nil ?_
        refine Then_normal ?_
        refine wp_cond' rfl (fun hc40 => ?_) (fun hc40 => ?_)
        · replace hc40 := of_decide_eq_true hc40
          refine wp_exit' ?_
          refine Then_exit ?_
          refine InBlock_here ?_
          refine Then_normal ?_
          refine wp_region' ?_
          refine ops_ro' rfl (ro_move rfl) rfl ?_
          refine ops_ro' rfl (ro_add rfl rfl (wrap_inc (by omega))) rfl ?_
          refine ops_ro' rfl (ro_assign rfl) rfl ?_
          refine ops_nil ?_
          refine Then_normal ?_
          refine back (m - 1) (by omega) (kept ⟨i + 1, g, ⟨by omega, by omega, hg1, hg2, hg3⟩, rfl, rfl⟩ ?_ ?_ ?_)
          · exact (by repeat (first | exact Has.nil _ | refine Has.cons rfl ?_))
          · exact (by repeat (first | exact Has.nil _ | refine Has.cons rfl ?_))
          · exact (SubH.cons 2 rfl (SubH.cons 2 rfl (SubH.cons 1 rfl (SubH.nil _))))
        · replace hc40 := of_decide_eq_false hc40
          refine wp_skip' ?_
          refine Then_normal ?_
          refine wp_seq' ?_
          refine wp_region' ?_
          refine ops_ro' rfl (ro_move rfl) rfl ?_
          refine ops_ro' rfl (ro_move rfl) rfl ?_
          refine ops_eff' rfl (eff_callM (Pre := [_]) Try.call24 rfl rfl (by repeat (first | exact Split.nil _ | apply Split.cons 0 rfl | apply Split.cons 1 rfl | apply Split.cons 2 rfl | apply Split.cons 3 rfl | apply Split.cons 4 rfl | apply Split.cons 5 rfl | apply Split.cons 6 rfl | apply Split.cons 7 rfl | apply Split.cons 8 rfl | apply Split.cons 9 rfl | apply Split.cons 10 rfl | apply Split.cons 11 rfl)) (auDo_K _ bg p c g (by omega) us (by first | exact Vw.pick 0 rfl Vw.row | exact Vw.pick 1 rfl Vw.row | exact Vw.pick 2 rfl Vw.row | exact Vw.pick 3 rfl Vw.row | exact Vw.pick 4 rfl Vw.row | exact Vw.pick 5 rfl Vw.row | exact Vw.pick 6 rfl Vw.row | exact Vw.pick 7 rfl Vw.row | exact Vw.pick 8 rfl Vw.row | exact Vw.nil _ | exact Vw.empty _ _) (by omega) _ x _ (Vw.subH (by repeat (first | exact SubH.nil _ | refine SubH.cons 0 rfl ?_ | refine SubH.cons 1 rfl ?_ | refine SubH.cons 2 rfl ?_ | refine SubH.cons 3 rfl ?_ | refine SubH.cons 4 rfl ?_ | refine SubH.cons 5 rfl ?_ | refine SubH.cons 6 rfl ?_ | refine SubH.cons 7 rfl ?_ | refine SubH.cons 8 rfl ?_ | refine SubH.cons 9 rfl ?_ | refine SubH.cons 10 rfl ?_ | refine SubH.cons 11 rfl ?_ | refine SubH.cons 12 rfl ?_ | refine SubH.cons 13 rfl ?_ | refine SubH.rown ?_)) hv) hc (by omega))) rfl ?_
          rintro _ H' ⟨_, rfl, hH⟩
          simp only [List.cons_append, List.nil_append, List.eraseIdx_cons_zero, List.eraseIdx_cons_succ, List.set_cons_zero, List.set_cons_succ] at hH
          subst hH
          obtain ⟨f1, f2, f3, f4⟩ := serv_step (us := us) (x := x) hg1 hg2 (fun h => by first | omega | (exfalso; omega))
          rw [hg3] at f3
          generalize gDo g us x = t at *
          obtain ⟨⟨sv2, tr2, us2, in2, dd2⟩, o⟩ := t
          simp only at *
          subst f1 f2 f3
          refine ops_ro' rfl (ro_assign rfl) rfl ?_
          refine ops_nil ?_
          refine Then_normal ?_
          refine wp_seq' ?_
          refine wp_region' ?_
          refine ops_ro' rfl (ro_move rfl) rfl ?_
          refine ops_eff' rfl (eff_call Try.call26 rfl rfl (by repeat (first | exact Split.nil _ | apply Split.cons 0 rfl | apply Split.cons 1 rfl | apply Split.cons 2 rfl | apply Split.cons 3 rfl | apply Split.cons 4 rfl | apply Split.cons 5 rfl | apply Split.cons 6 rfl | apply Split.cons 7 rfl | apply Split.cons 8 rfl | apply Split.cons 9 rfl | apply Split.cons 10 rfl | apply Split.cons 11 rfl)) (auUser_spec bg p us.length c ⟨false, 0, us2, false, dd2⟩)) rfl ?_
          rintro _ H' ⟨_, ⟨rfl, rfl⟩, hH⟩
          simp only [List.cons_append, List.nil_append, List.eraseIdx_cons_zero, List.eraseIdx_cons_succ, List.set_cons_zero, List.set_cons_succ] at hH
          subst hH
          refine ops_ro' rfl (ro_move rfl) rfl ?_
          refine ops_ro' rfl (ro_extract rfl rfl) rfl ?_
          refine ops_ro' rfl (ro_extract rfl rfl) rfl ?_
          refine ops_ro' rfl (ro_assign rfl) rfl ?_
          refine ops_ro' rfl (ro_assign rfl) rfl ?_
          refine ops_nil ?_
          refine Then_normal ?_
          refine wp_seq' ?_
          refine wp_region' ?_
          refine ops_ro' rfl (ro_move rfl) rfl ?_
          refine ops_ro' rfl (ro_sliceLen Try.underlying32 rfl) rfl ?_
          refine ops_ro' rfl (ro_eql rfl rfl (decide_eq_false (by omega))) rfl ?_
          refine ops_ro' rfl (ro_move (v := .bool false) rfl) rfl ?_
          refine ops_ro' rfl (ro_move rfl) rfl ?_
          refine ops_ro' rfl (ro_indexSlice sl32 rfl rfl rfl (by omega)) rfl ?_
          refine ops_ro' rfl (ro_load sc5 rfl (Rd.of_n (vw_rdn (Vw.subH (by repeat (first | exact SubH.nil _ | refine SubH.cons 0 rfl ?_ | refine SubH.cons 1 rfl ?_ | refine SubH.cons 2 rfl ?_ | refine SubH.cons 3 rfl ?_ | refine SubH.cons 4 rfl ?_ | refine SubH.cons 5 rfl ?_ | refine SubH.cons 6 rfl ?_ | refine SubH.cons 7 rfl ?_ | refine SubH.cons 8 rfl ?_ | refine SubH.cons 9 rfl ?_ | refine SubH.cons 10 rfl ?_ | refine SubH.cons 11 rfl ?_ | refine SubH.cons 12 rfl ?_ | refine SubH.cons 13 rfl ?_ | refine SubH.rown ?_)) hv)) (j := 0) (by first | rfl | omega) (cel_get h0))) rfl ?_
          refine ops_ro' rfl (ro_geq rfl rfl rfl) rfl ?_
          refine ops_split rfl rfl rfl (fun hg57 => ?_) (fun hg57 => ?_)
          · replace hg57 := of_decide_eq_true hg57
            refine ops_ro' rfl (ro_move rfl) rfl ?_
            refine ops_ro' rfl (ro_indexSlice sl32 rfl rfl rfl (by omega)) rfl ?_
            refine ops_ro' rfl (ro_load sc5 rfl (Rd.of_n (vw_rdn (Vw.subH (by repeat (first | exact SubH.nil _ | refine SubH.cons 0 rfl ?_ | refine SubH.cons 1 rfl ?_ | refine SubH.cons 2 rfl ?_ | refine SubH.cons 3 rfl ?_ | refine SubH.cons 4 rfl ?_ | refine SubH.cons 5 rfl ?_ | refine SubH.cons 6 rfl ?_ | refine SubH.cons 7 rfl ?_ | refine SubH.cons 8 rfl ?_ | refine SubH.cons 9 rfl ?_ | refine SubH.cons 10 rfl ?_ | refine SubH.cons 11 rfl ?_ | refine SubH.cons 12 rfl ?_ | refine SubH.cons 13 rfl ?_ | refine SubH.rown ?_)) hv)) (j := 0) (by first | rfl | omega) (cel_get h0))) rfl ?_
            refine ops_ro' rfl (ro_leq rfl rfl rfl) rfl ?_
            refine ops_ro' rfl (ro_pick rfl rfl) rfl ?_
            refine ops_ro' rfl (ro_pick rfl rfl) rfl ?_
            refine ops_ro' rfl (ro_assign rfl) rfl ?_
            refine ops_nil ?_
            refine Then_normal ?_
            refine wp_seq' ?_
            refine wp_seq' ?_
            refine wp_region' ?_
            refine ops_ro' rfl (ro_move rfl) rfl ?_
            refine ops_ro' rfl (ro_move (v := .bool false) rfl) rfl ?_
            refine ops_ro' rfl (ro_move rfl) rfl ?_
            refine ops_split rfl rfl rfl (fun hg67 => ?_) (fun hg67 => ?_)
            · replace hg67 := of_decide_eq_true hg67
              skip
              try (have ho : o = none := f4.1 (fun h => by omega); subst ho; (first | refine ops_ansN 0 rfl ?_ | refine ops_ansN 1 rfl ?_ | refine ops_ansN 2 rfl ?_); rintro rfl; simp only [List.eraseIdx_cons_zero, List.eraseIdx_cons_succ])
              refine ops_ro' rfl (ro_move rfl) rfl ?_
              refine ops_ro' rfl (ro_sliceLen Try.underlying36 rfl) rfl ?_
              refine ops_ro' rfl (ro_gtr rfl rfl (decide_eq_false (by omega))) rfl ?_
              refine ops_ro' rfl (ro_pick rfl rfl) rfl ?_
              refine ops_ro' rfl (ro_pick rfl rfl) rfl ?_
              refine ops_ro' rfl (ro_move (v := .bool false) rfl) rfl ?_
              refine ops_ro' rfl (ro_move rfl) rfl ?_
              refine ops_ro' rfl (ro_not rfl rfl) rfl ?_
              refine ops_split rfl rfl rfl (fun hg76 => ?_) (fun hg76 => ?_)
              · simp only [Bool.and_eq_true, decide_eq_true_eq, Bool.not_eq_true', decide_eq_false_iff_not, bne_iff_ne, ne_eq] at hg76
                exfalso; omega
              · simp only [Bool.and_eq_false_iff, decide_eq_false_iff_not, Bool.not_eq_false', decide_eq_true_eq] at hg76
                refine ops_skip' rfl rfl ?_
                try (have hd : dd2 = true := f4.2 h0 (by omega); subst hd)
                refine ops_skip' rfl rfl ?_
                refine ops_skip' rfl rfl ?_
                refine ops_ro' rfl (ro_pick rfl rfl) rfl ?_
                refine ops_ro' rfl (ro_pick rfl rfl) rfl ?_
                refine ops_nil ?_
                refine Then_normal ?_
                refine wp_condF rfl ?_
                refine wp_skip' ?_
                refine Then_normal ?_
                refine wp_seq' ?_
                refine wp_region' ?_
                refine ops_ro' rfl (ro_move rfl) rfl ?_
                refine ops_eff' rfl (eff_call Try.call27 rfl rfl (by repeat (first | exact Split.nil _ | apply Split.cons 0 rfl | apply Split.cons 1 rfl | apply Split.cons 2 rfl | apply Split.cons 3 rfl | apply Split.cons 4 rfl | apply Split.cons 5 rfl | apply Split.cons 6 rfl | apply Split.cons 7 rfl | apply Split.cons 8 rfl | apply Split.cons 9 rfl | apply Split.cons 10 rfl | apply Split.cons 11 rfl)) (auDead_spec bg p us.length c _)) rfl ?_
                rintro _ H' ⟨_, ⟨rfl, rfl⟩, hH⟩
                simp only [List.cons_append, List.nil_append, List.eraseIdx_cons_zero, List.eraseIdx_cons_succ, List.set_cons_zero, List.set_cons_succ] at hH
                subst hH
                refine ops_split rfl rfl rfl (fun hg84 => ?_) (fun hg84 => ?_)
                · simp only [Bool.and_eq_true, decide_eq_true_eq, Bool.not_eq_true', decide_eq_false_iff_not, bne_iff_ne, ne_eq] at hg84
                  refine ops_ro' rfl (ro_move rfl) rfl ?_
                  refine ops_ro' rfl (ro_build rfl (bld_struct (cs := Ak.cs ⟨1, 0, [], [], [], [], none, 0⟩) st35 rfl)) rfl ?_
                  refine ops_eff' rfl (eff_call Try.call16 rfl rfl (by repeat (first | exact Split.nil _ | apply Split.cons 0 rfl | apply Split.cons 1 rfl | apply Split.cons 2 rfl | apply Split.cons 3 rfl | apply Split.cons 4 rfl | apply Split.cons 5 rfl | apply Split.cons 6 rfl | apply Split.cons 7 rfl | apply Split.cons 8 rfl | apply Split.cons 9 rfl | apply Split.cons 10 rfl | apply Split.cons 11 rfl)) (payload_run V 1 0 [] [] [] [] none 0 (Vw.nil V) (Nat.le_refl _))) rfl ?_
                  rintro _ H' ⟨_, ⟨A87, pp87, cc87, rfl, hv87, hc87, rfl⟩, hH⟩
                  simp only [List.cons_append, List.nil_append, List.eraseIdx_cons_zero, List.eraseIdx_cons_succ, List.set_cons_zero, List.set_cons_succ] at hH
                  subst hH
                  refine ops_eff' rfl (eff_callM (Pre := [_]) Try.call24 rfl rfl (by repeat (first | exact Split.nil _ | apply Split.cons 0 rfl | apply Split.cons 1 rfl | apply Split.cons 2 rfl | apply Split.cons 3 rfl | apply Split.cons 4 rfl | apply Split.cons 5 rfl | apply Split.cons 6 rfl | apply Split.cons 7 rfl | apply Split.cons 8 rfl | apply Split.cons 9 rfl | apply Split.cons 10 rfl | apply Split.cons 11 rfl)) (auDo_K _ bg p c _ (Nat.zero_le _) us (by first | exact Vw.pick 0 rfl Vw.row | exact Vw.pick 1 rfl Vw.row | exact Vw.pick 2 rfl Vw.row | exact Vw.pick 3 rfl Vw.row | exact Vw.pick 4 rfl Vw.row | exact Vw.pick 5 rfl Vw.row | exact Vw.pick 6 rfl Vw.row | exact Vw.pick 7 rfl Vw.row | exact Vw.pick 8 rfl Vw.row | exact Vw.nil _ | exact Vw.empty _ _) (by omega) _ (payB ⟨1, 0, [], [], [], [], none, 0⟩) _ (Vw.subH (by repeat (first | exact SubH.nil _ | refine SubH.cons 0 rfl ?_ | refine SubH.cons 1 rfl ?_ | refine SubH.cons 2 rfl ?_ | refine SubH.cons 3 rfl ?_ | refine SubH.cons 4 rfl ?_ | refine SubH.cons 5 rfl ?_ | refine SubH.cons 6 rfl ?_ | refine SubH.cons 7 rfl ?_ | refine SubH.cons 8 rfl ?_ | refine SubH.cons 9 rfl ?_ | refine SubH.cons 10 rfl ?_ | refine SubH.cons 11 rfl ?_ | refine SubH.cons 12 rfl ?_ | refine SubH.cons 13 rfl ?_ | refine SubH.rown ?_)) hv87) hc87 (by rw [show (payB ⟨1, 0, [], [], [], [], none, 0⟩).length = _ from rfl]; decide))) rfl ?_
                  rintro _ H' ⟨_, rfl, hH⟩
                  simp only [List.cons_append, List.nil_append, List.eraseIdx_cons_zero, List.eraseIdx_cons_succ, List.set_cons_zero, List.set_cons_succ] at hH
                  subst hH
                  try ((first | rw [gDo_dead (g := ⟨false, 0, us2, false, true⟩) rfl] | rw [gDo_dead (by assumption)]); (first | refine ops_ansN 0 rfl ?_ | refine ops_ansN 1 rfl ?_); rintro rfl; simp only [List.eraseIdx_cons_zero, List.eraseIdx_cons_succ])
                  refine ops_ro' rfl (ro_sliceLen Try.underlying36 rfl) rfl ?_
                  refine ops_ro' rfl (ro_gtr rfl rfl (decide_eq_false (by omega))) rfl ?_
                  refine ops_ro' rfl (ro_pick rfl rfl) rfl ?_
                  refine ops_nil ?_
                  refine Then_normal ?_
                  refine wp_condF rfl ?_
                  refine wp_skip' ?_
                  refine InBlock_normal ?_
                  refine Then_normal ?_
                  refine wp_region' ?_
                  refine ops_ro' rfl (ro_move rfl) rfl ?_
                  refine ops_ro' rfl (ro_add rfl rfl (wrap_inc (by omega))) rfl ?_
                  refine ops_ro' rfl (ro_assign rfl) rfl ?_
                  refine ops_nil ?_
                  refine Then_normal ?_
                  refine back (m - 1) (by omega) (kept ⟨i + 1, ⟨false, 0, us2, false, dd2⟩, ⟨by omega, by omega, rfl, rfl, rfl⟩, rfl, rfl⟩ ?_ ?_ ?_)
                  · exact (by repeat (first | exact Has.nil _ | refine Has.cons rfl ?_))
                  · exact (by repeat (first | exact Has.nil _ | refine Has.cons rfl ?_))
                  · exact (SubH.cons 0 rfl (SubH.cons 3 rfl (SubH.cons 1 rfl (SubH.nil _))))
                · simp only [Bool.and_eq_false_iff, decide_eq_false_iff_not, Bool.not_eq_false', decide_eq_true_eq] at hg84
                  refine ops_skip' rfl rfl ?_
                  refine ops_skip' rfl rfl ?_
                  refine ops_skip' rfl rfl ?_
                  refine ops_skip' rfl rfl ?_
                  try ((first | rw [gDo_dead (g := ⟨false, 0, us2, false, true⟩) rfl] | rw [gDo_dead (by assumption)]); (first | refine ops_ansN 0 rfl ?_ | refine ops_ansN 1 rfl ?_); rintro rfl; simp only [List.eraseIdx_cons_zero, List.eraseIdx_cons_succ])
                  refine ops_skip' rfl rfl ?_
                  refine ops_skip' rfl rfl ?_
                  refine ops_ro' rfl (ro_pick rfl rfl) rfl ?_
                  refine ops_nil ?_
                  refine Then_normal ?_
                  refine wp_condF rfl ?_
                  refine wp_skip' ?_
                  refine InBlock_normal ?_
                  refine Then_normal ?_
                  refine wp_region' ?_
                  refine ops_ro' rfl (ro_move rfl) rfl ?_
                  refine ops_ro' rfl (ro_add rfl rfl (wrap_inc (by omega))) rfl ?_
                  refine ops_ro' rfl (ro_assign rfl) rfl ?_
                  refine ops_nil ?_
                  refine Then_normal ?_
                  refine back (m - 1) (by omega) (kept ⟨i + 1, ⟨false, 0, us2, false, dd2⟩, ⟨by omega, by omega, rfl, rfl, rfl⟩, rfl, rfl⟩ ?_ ?_ ?_)
                  · exact (by repeat (first | exact Has.nil _ | refine Has.cons rfl ?_))
                  · exact (by repeat (first | exact Has.nil _ | refine Has.cons rfl ?_))
                  · exact (SubH.cons 0 rfl (SubH.cons 2 rfl (SubH.cons 1 rfl (SubH.nil _))))
            · replace hg67 := of_decide_eq_false hg67
              try (have ho : o = none := f4.1 (fun h => by omega); subst ho; (first | refine ops_ansN 0 rfl ?_ | refine ops_ansN 1 rfl ?_ | refine ops_ansN 2 rfl ?_); rintro rfl; simp only [List.eraseIdx_cons_zero, List.eraseIdx_cons_succ])
              refine ops_skip' rfl rfl ?_
              refine ops_skip' rfl rfl ?_
              refine ops_skip' rfl rfl ?_
              refine ops_ro' rfl (ro_pick rfl rfl) rfl ?_
              refine ops_ro' rfl (ro_pick rfl rfl) rfl ?_
              refine ops_ro' rfl (ro_move (v := .bool false) rfl) rfl ?_
              refine ops_ro' rfl (ro_move rfl) rfl ?_
              refine ops_ro' rfl (ro_not rfl rfl) rfl ?_
              refine ops_split rfl rfl rfl (fun hg76 => ?_) (fun hg76 => ?_)
              · simp only [Bool.and_eq_true, decide_eq_true_eq, Bool.not_eq_true', decide_eq_false_iff_not, bne_iff_ne, ne_eq] at hg76
                refine ops_ro' rfl (ro_move rfl) rfl ?_
                try (have hd : dd2 = true := f4.2 h0 (by omega); subst hd)
                refine ops_eff' rfl (eff_call Try.call27 rfl rfl (by repeat (first | exact Split.nil _ | apply Split.cons 0 rfl | apply Split.cons 1 rfl | apply Split.cons 2 rfl | apply Split.cons 3 rfl | apply Split.cons 4 rfl | apply Split.cons 5 rfl | apply Split.cons 6 rfl | apply Split.cons 7 rfl | apply Split.cons 8 rfl | apply Split.cons 9 rfl | apply Split.cons 10 rfl | apply Split.cons 11 rfl)) (auDead_spec bg p us.length c _)) rfl ?_
                rintro _ H' ⟨_, ⟨rfl, rfl⟩, hH⟩
                simp only [List.cons_append, List.nil_append, List.eraseIdx_cons_zero, List.eraseIdx_cons_succ, List.set_cons_zero, List.set_cons_succ] at hH
                subst hH
                refine ops_ro' rfl (ro_not rfl rfl) rfl ?_
                refine ops_ro' rfl (ro_pick rfl rfl) rfl ?_
                refine ops_ro' rfl (ro_pick rfl rfl) rfl ?_
                refine ops_nil ?_
                refine Then_normal ?_
                refine wp_condF rfl ?_
                refine wp_skip' ?_
                refine Then_normal ?_
                refine wp_seq' ?_
                refine wp_region' ?_
                refine ops_ro' rfl (ro_move rfl) rfl ?_
                refine ops_eff' rfl (eff_call Try.call27 rfl rfl (by repeat (first | exact Split.nil _ | apply Split.cons 0 rfl | apply Split.cons 1 rfl | apply Split.cons 2 rfl | apply Split.cons 3 rfl | apply Split.cons 4 rfl | apply Split.cons 5 rfl | apply Split.cons 6 rfl | apply Split.cons 7 rfl | apply Split.cons 8 rfl | apply Split.cons 9 rfl | apply Split.cons 10 rfl | apply Split.cons 11 rfl)) (auDead_spec bg p us.length c _)) rfl ?_
                rintro _ H' ⟨_, ⟨rfl, rfl⟩, hH⟩
                simp only [List.cons_append, List.nil_append, List.eraseIdx_cons_zero, List.eraseIdx_cons_succ, List.set_cons_zero, List.set_cons_succ] at hH
                subst hH
                refine ops_ro' rfl (ro_move (v := .bool true) rfl) rfl ?_
                refine ops_ro' rfl (ro_move rfl) rfl ?_
                refine ops_ro' rfl (ro_build rfl (bld_struct (cs := Ak.cs ⟨1, 0, [], [], [], [], none, 0⟩) st35 rfl)) rfl ?_
                refine ops_eff' rfl (eff_call Try.call16 rfl rfl (by repeat (first | exact Split.nil _ | apply Split.cons 0 rfl | apply Split.cons 1 rfl | apply Split.cons 2 rfl | apply Split.cons 3 rfl | apply Split.cons 4 rfl | apply Split.cons 5 rfl | apply Split.cons 6 rfl | apply Split.cons 7 rfl | apply Split.cons 8 rfl | apply Split.cons 9 rfl | apply Split.cons 10 rfl | apply Split.cons 11 rfl)) (payload_run V 1 0 [] [] [] [] none 0 (Vw.nil V) (Nat.le_refl _))) rfl ?_
                rintro _ H' ⟨_, ⟨A87, pp87, cc87, rfl, hv87, hc87, rfl⟩, hH⟩
                simp only [List.cons_append, List.nil_append, List.eraseIdx_cons_zero, List.eraseIdx_cons_succ, List.set_cons_zero, List.set_cons_succ] at hH
                subst hH
                refine ops_eff' rfl (eff_callM (Pre := [_]) Try.call24 rfl rfl (by repeat (first | exact Split.nil _ | apply Split.cons 0 rfl | apply Split.cons 1 rfl | apply Split.cons 2 rfl | apply Split.cons 3 rfl | apply Split.cons 4 rfl | apply Split.cons 5 rfl | apply Split.cons 6 rfl | apply Split.cons 7 rfl | apply Split.cons 8 rfl | apply Split.cons 9 rfl | apply Split.cons 10 rfl | apply Split.cons 11 rfl)) (auDo_K _ bg p c _ (Nat.zero_le _) us (by first | exact Vw.pick 0 rfl Vw.row | exact Vw.pick 1 rfl Vw.row | exact Vw.pick 2 rfl Vw.row | exact Vw.pick 3 rfl Vw.row | exact Vw.pick 4 rfl Vw.row | exact Vw.pick 5 rfl Vw.row | exact Vw.pick 6 rfl Vw.row | exact Vw.pick 7 rfl Vw.row | exact Vw.pick 8 rfl Vw.row | exact Vw.nil _ | exact Vw.empty _ _) (by omega) _ (payB ⟨1, 0, [], [], [], [], none, 0⟩) _ (Vw.subH (by repeat (first | exact SubH.nil _ | refine SubH.cons 0 rfl ?_ | refine SubH.cons 1 rfl ?_ | refine SubH.cons 2 rfl ?_ | refine SubH.cons 3 rfl ?_ | refine SubH.cons 4 rfl ?_ | refine SubH.cons 5 rfl ?_ | refine SubH.cons 6 rfl ?_ | refine SubH.cons 7 rfl ?_ | refine SubH.cons 8 rfl ?_ | refine SubH.cons 9 rfl ?_ | refine SubH.cons 10 rfl ?_ | refine SubH.cons 11 rfl ?_ | refine SubH.cons 12 rfl ?_ | refine SubH.cons 13 rfl ?_ | refine SubH.rown ?_)) hv87) hc87 (by rw [show (payB ⟨1, 0, [], [], [], [], none, 0⟩).length = _ from rfl]; decide))) rfl ?_
                rintro _ H' ⟨_, rfl, hH⟩
                simp only [List.cons_append, List.nil_append, List.eraseIdx_cons_zero, List.eraseIdx_cons_succ, List.set_cons_zero, List.set_cons_succ] at hH
                subst hH
                try ((first | rw [gDo_dead (g := ⟨false, 0, us2, false, true⟩) rfl] | rw [gDo_dead (by assumption)]); (first | refine ops_ansN 0 rfl ?_ | refine ops_ansN 1 rfl ?_); rintro rfl; simp only [List.eraseIdx_cons_zero, List.eraseIdx_cons_succ])
                refine ops_ro' rfl (ro_sliceLen Try.underlying36 rfl) rfl ?_
                refine ops_ro' rfl (ro_gtr rfl rfl (decide_eq_false (by omega))) rfl ?_
                refine ops_ro' rfl (ro_pick rfl rfl) rfl ?_
                refine ops_nil ?_
                refine Then_normal ?_
                refine wp_condF rfl ?_
                refine wp_skip' ?_
                refine InBlock_normal ?_
                refine Then_normal ?_
                refine wp_region' ?_
                refine ops_ro' rfl (ro_move rfl) rfl ?_
                refine ops_ro' rfl (ro_add rfl rfl (wrap_inc (by omega))) rfl ?_
                refine ops_ro' rfl (ro_assign rfl) rfl ?_
                refine ops_nil ?_
                refine Then_normal ?_
                refine back (m - 1) (by omega) (kept ⟨i + 1, ⟨false, 0, us2, false, true⟩, ⟨by omega, by omega, rfl, rfl, rfl⟩, rfl, rfl⟩ ?_ ?_ ?_)
                · exact (by repeat (first | exact Has.nil _ | refine Has.cons rfl ?_))
                · exact (by repeat (first | exact Has.nil _ | refine Has.cons rfl ?_))
                · exact (SubH.cons 0 rfl (SubH.cons 4 rfl (SubH.cons 1 rfl (SubH.nil _))))
              · simp only [Bool.and_eq_false_iff, decide_eq_false_iff_not, Bool.not_eq_false', decide_eq_true_eq] at hg76
                exfalso; omega
          · replace hg57 := of_decide_eq_false hg57
            refine ops_skip' rfl rfl ?_
            refine ops_skip' rfl rfl ?_
            refine ops_skip' rfl rfl ?_
            refine ops_skip' rfl rfl ?_
            refine ops_ro' rfl (ro_pick rfl rfl) rfl ?_
            refine ops_ro' rfl (ro_pick rfl rfl) rfl ?_
            refine ops_ro' rfl (ro_assign rfl) rfl ?_
            refine ops_nil ?_
            refine Then_normal ?_
            refine wp_seq' ?_
            refine wp_seq' ?_
            refine wp_region' ?_
            refine ops_ro' rfl (ro_move rfl) rfl ?_
            refine ops_ro' rfl (ro_move (v := .bool false) rfl) rfl ?_
            refine ops_ro' rfl (ro_move rfl) rfl ?_
            refine ops_ro' rfl (ro_move (v := .bool false) rfl) rfl ?_
            try (have ho : o = none := f4.1 (fun h => by omega); subst ho; (first | refine ops_ansN 0 rfl ?_ | refine ops_ansN 1 rfl ?_ | refine ops_ansN 2 rfl ?_); rintro rfl; simp only [List.eraseIdx_cons_zero, List.eraseIdx_cons_succ])
            refine ops_skip' rfl rfl ?_
            refine ops_skip' rfl rfl ?_
            refine ops_skip' rfl rfl ?_
            refine ops_ro' rfl (ro_pick rfl rfl) rfl ?_
            refine ops_ro' rfl (ro_pick rfl rfl) rfl ?_
            refine ops_ro' rfl (ro_move (v := .bool false) rfl) rfl ?_
            refine ops_ro' rfl (ro_move rfl) rfl ?_
            refine ops_ro' rfl (ro_not rfl rfl) rfl ?_
            refine ops_ro' rfl (ro_move (v := .bool true) rfl) rfl ?_
            refine ops_ro' rfl (ro_move rfl) rfl ?_
            try (have hd : dd2 = true := f4.2 h0 (by omega); subst hd)
            refine ops_eff' rfl (eff_call Try.call27 rfl rfl (by repeat (first | exact Split.nil _ | apply Split.cons 0 rfl | apply Split.cons 1 rfl | apply Split.cons 2 rfl | apply Split.cons 3 rfl | apply Split.cons 4 rfl | apply Split.cons 5 rfl | apply Split.cons 6 rfl | apply Split.cons 7 rfl | apply Split.cons 8 rfl | apply Split.cons 9 rfl | apply Split.cons 10 rfl | apply Split.cons 11 rfl)) (auDead_spec bg p us.length c _)) rfl ?_
            rintro _ H' ⟨_, ⟨rfl, rfl⟩, hH⟩
            simp only [List.cons_append, List.nil_append, List.eraseIdx_cons_zero, List.eraseIdx_cons_succ, List.set_cons_zero, List.set_cons_succ] at hH
            subst hH
            refine ops_ro' rfl (ro_not rfl rfl) rfl ?_
            refine ops_ro' rfl (ro_pick rfl rfl) rfl ?_
            refine ops_ro' rfl (ro_pick rfl rfl) rfl ?_
            refine ops_nil ?_
            refine Then_normal ?_
            refine wp_condF rfl ?_
            refine wp_skip' ?_
            refine Then_normal ?_
            refine wp_seq' ?_
            refine wp_region' ?_
            refine ops_ro' rfl (ro_move rfl) rfl ?_
            refine ops_eff' rfl (eff_call Try.call27 rfl rfl (by repeat (first | exact Split.nil _ | apply Split.cons 0 rfl | apply Split.cons 1 rfl | apply Split.cons 2 rfl | apply Split.cons 3 rfl | apply Split.cons 4 rfl | apply Split.cons 5 rfl | apply Split.cons 6 rfl | apply Split.cons 7 rfl | apply Split.cons 8 rfl | apply Split.cons 9 rfl | apply Split.cons 10 rfl | apply Split.cons 11 rfl)) (auDead_spec bg p us.length c _)) rfl ?_
            rintro _ H' ⟨_, ⟨rfl, rfl⟩, hH⟩
            simp only [List.cons_append, List.nil_append, List.eraseIdx_cons_zero, List.eraseIdx_cons_succ, List.set_cons_zero, List.set_cons_succ] at hH
            subst hH
            refine ops_ro' rfl (ro_move (v := .bool true) rfl) rfl ?_
            refine ops_ro' rfl (ro_move rfl) rfl ?_
            refine ops_ro' rfl (ro_build rfl (bld_struct (cs := Ak.cs ⟨1, 0, [], [], [], [], none, 0⟩) st35 rfl)) rfl ?_
            refine ops_eff' rfl (eff_call Try.call16 rfl rfl (by repeat (first | exact Split.nil _ | apply Split.cons 0 rfl | apply Split.cons 1 rfl | apply Split.cons 2 rfl | apply Split.cons 3 rfl | apply Split.cons 4 rfl | apply Split.cons 5 rfl | apply Split.cons 6 rfl | apply Split.cons 7 rfl | apply Split.cons 8 rfl | apply Split.cons 9 rfl | apply Split.cons 10 rfl | apply Split.cons 11 rfl)) (payload_run V 1 0 [] [] [] [] none 0 (Vw.nil V) (Nat.le_refl _))) rfl ?_
            rintro _ H' ⟨_, ⟨A87, pp87, cc87, rfl, hv87, hc87, rfl⟩, hH⟩
            simp only [List.cons_append, List.nil_append, List.eraseIdx_cons_zero, List.eraseIdx_cons_succ, List.set_cons_zero, List.set_cons_succ] at hH
            subst hH
            refine ops_eff' rfl (eff_callM (Pre := [_]) Try.call24 rfl rfl (by repeat (first | exact Split.nil _ | apply Split.cons 0 rfl | apply Split.cons 1 rfl | apply Split.cons 2 rfl | apply Split.cons 3 rfl | apply Split.cons 4 rfl | apply Split.cons 5 rfl | apply Split.cons 6 rfl | apply Split.cons 7 rfl | apply Split.cons 8 rfl | apply Split.cons 9 rfl | apply Split.cons 10 rfl | apply Split.cons 11 rfl)) (auDo_K _ bg p c _ (Nat.zero_le _) us (by first | exact Vw.pick 0 rfl Vw.row | exact Vw.pick 1 rfl Vw.row | exact Vw.pick 2 rfl Vw.row | exact Vw.pick 3 rfl Vw.row | exact Vw.pick 4 rfl Vw.row | exact Vw.pick 5 rfl Vw.row | exact Vw.pick 6 rfl Vw.row | exact Vw.pick 7 rfl Vw.row | exact Vw.pick 8 rfl Vw.row | exact Vw.nil _ | exact Vw.empty _ _) (by omega) _ (payB ⟨1, 0, [], [], [], [], none, 0⟩) _ (Vw.subH (by repeat (first | exact SubH.nil _ | refine SubH.cons 0 rfl ?_ | refine SubH.cons 1 rfl ?_ | refine SubH.cons 2 rfl ?_ | refine SubH.cons 3 rfl ?_ | refine SubH.cons 4 rfl ?_ | refine SubH.cons 5 rfl ?_ | refine SubH.cons 6 rfl ?_ | refine SubH.cons 7 rfl ?_ | refine SubH.cons 8 rfl ?_ | refine SubH.cons 9 rfl ?_ | refine SubH.cons 10 rfl ?_ | refine SubH.cons 11 rfl ?_ | refine SubH.cons 12 rfl ?_ | refine SubH.cons 13 rfl ?_ | refine SubH.rown ?_)) hv87) hc87 (by rw [show (payB ⟨1, 0, [], [], [], [], none, 0⟩).length = _ from rfl]; decide))) rfl ?_
            rintro _ H' ⟨_, rfl, hH⟩
            simp only [List.cons_append, List.nil_append, List.eraseIdx_cons_zero, List.eraseIdx_cons_succ, List.set_cons_zero, List.set_cons_succ] at hH
            subst hH
            try ((first | rw [gDo_dead (g := ⟨false, 0, us2, false, true⟩) rfl] | rw [gDo_dead (by assumption)]); (first | refine ops_ansN 0 rfl ?_ | refine ops_ansN 1 rfl ?_); rintro rfl; simp only [List.eraseIdx_cons_zero, List.eraseIdx_cons_succ])
            refine ops_ro' rfl (ro_sliceLen Try.underlying36 rfl) rfl ?_
            refine ops_ro' rfl (ro_gtr rfl rfl (decide_eq_false (by omega))) rfl ?_
            refine ops_ro' rfl (ro_pick rfl rfl) rfl ?_
            refine ops_nil ?_
            refine Then_normal ?_
            refine wp_condF rfl ?_
            refine wp_skip' ?_
            refine InBlock_normal ?_
            refine Then_normal ?_
            refine wp_region' ?_
            refine ops_ro' rfl (ro_move rfl) rfl ?_
            refine ops_ro' rfl (ro_add rfl rfl (wrap_inc (by omega))) rfl ?_
            refine ops_ro' rfl (ro_assign rfl) rfl ?_
            refine ops_nil ?_
            refine Then_normal ?_
            refine back (m - 1) (by omega) (kept ⟨i + 1, ⟨false, 0, us2, false, true⟩, ⟨by omega, by omega, rfl, rfl, rfl⟩, rfl, rfl⟩ ?_ ?_ ?_)
            · exact (by repeat (first | exact Has.nil _ | refine Has.cons rfl ?_))
            · exact (by repeat (first | exact Has.nil _ | refine Has.cons rfl ?_))
            · exact (SubH.cons 0 rfl (SubH.cons 4 rfl (SubH.cons 1 rfl (SubH.nil _))))
      · replace hg35 := of_decide_eq_false hg35
        refine ops_skip' rfl rfl ?_
        refine ops_skip' rfl rfl ?_
        refine ops_skip' rfl rfl ?_
        refine ops_skip' rfl rfl ?_
        refine ops_ro' rfl (ro_pick rfl rfl) rfl ?_
        refine ops_nil ?_
        refine Then_normal ?_
        refine wp_condF rfl ?_
        refine wp_skip' ?_
        refine Then_normal ?_
        refine wp_seq' ?_
        refine wp_region' ?_
        refine ops_ro' rfl (ro_move rfl) rfl ?_
        refine ops_ro' rfl (ro_move rfl) rfl ?_
        refine ops_eff' rfl (eff_callM (Pre := [_]) Try.call24 rfl rfl (by repeat (first | exact Split.nil _ | apply Split.cons 0 rfl | apply Split.cons 1 rfl | apply Split.cons 2 rfl | apply Split.cons 3 rfl | apply Split.cons 4 rfl | apply Split.cons 5 rfl | apply Split.cons 6 rfl | apply Split.cons 7 rfl | apply Split.cons 8 rfl | apply Split.cons 9 rfl | apply Split.cons 10 rfl | apply Split.cons 11 rfl)) (auDo_K _ bg p c g (by omega) us (by first | exact Vw.pick 0 rfl Vw.row | exact Vw.pick 1 rfl Vw.row | exact Vw.pick 2 rfl Vw.row | exact Vw.pick 3 rfl Vw.row | exact Vw.pick 4 rfl Vw.row | exact Vw.pick 5 rfl Vw.row | exact Vw.pick 6 rfl Vw.row | exact Vw.pick 7 rfl Vw.row | exact Vw.pick 8 rfl Vw.row | exact Vw.nil _ | exact Vw.empty _ _) (by omega) _ x _ (Vw.subH (by repeat (first | exact SubH.nil _ | refine SubH.cons 0 rfl ?_ | refine SubH.cons 1 rfl ?_ | refine SubH.cons 2 rfl ?_ | refine SubH.cons 3 rfl ?_ | refine SubH.cons 4 rfl ?_ | refine SubH.cons 5 rfl ?_ | refine SubH.cons 6 rfl ?_ | refine SubH.cons 7 rfl ?_ | refine SubH.cons 8 rfl ?_ | refine SubH.cons 9 rfl ?_ | refine SubH.cons 10 rfl ?_ | refine SubH.cons 11 rfl ?_ | refine SubH.cons 12 rfl ?_ | refine SubH.cons 13 rfl ?_ | refine SubH.rown ?_)) hv) hc (by omega))) rfl ?_
        rintro _ H' ⟨_, rfl, hH⟩
        simp only [List.cons_append, List.nil_append, List.eraseIdx_cons_zero, List.eraseIdx_cons_succ, List.set_cons_zero, List.set_cons_succ] at hH
        subst hH
        obtain ⟨f1, f2, f3, f4⟩ := serv_step (us := us) (x := x) hg1 hg2 (fun h => by first | omega | (exfalso; omega))
        rw [hg3] at f3
        generalize gDo g us x = t at *
        obtain ⟨⟨sv2, tr2, us2, in2, dd2⟩, o⟩ := t
        simp only at *
        subst f1 f2 f3
        refine ops_ro' rfl (ro_assign rfl) rfl ?_
        refine ops_nil ?_
        refine Then_normal ?_
        refine wp_seq' ?_
        refine wp_region' ?_
        refine ops_ro' rfl (ro_move rfl) rfl ?_
        refine ops_eff' rfl (eff_call Try.call26 rfl rfl (by repeat (first | exact Split.nil _ | apply Split.cons 0 rfl | apply Split.cons 1 rfl | apply Split.cons 2 rfl | apply Split.cons 3 rfl | apply Split.cons 4 rfl | apply Split.cons 5 rfl | apply Split.cons 6 rfl | apply Split.cons 7 rfl | apply Split.cons 8 rfl | apply Split.cons 9 rfl | apply Split.cons 10 rfl | apply Split.cons 11 rfl)) (auUser_spec bg p us.length c ⟨false, 0, us2, false, dd2⟩)) rfl ?_
        rintro _ H' ⟨_, ⟨rfl, rfl⟩, hH⟩
        simp only [List.cons_append, List.nil_append, List.eraseIdx_cons_zero, List.eraseIdx_cons_succ, List.set_cons_zero, List.set_cons_succ] at hH
        subst hH
        refine ops_ro' rfl (ro_move rfl) rfl ?_
        refine ops_ro' rfl (ro_extract rfl rfl) rfl ?_
        refine ops_ro' rfl (ro_extract rfl rfl) rfl ?_
        refine ops_ro' rfl (ro_assign rfl) rfl ?_
        refine ops_ro' rfl (ro_assign rfl) rfl ?_
        refine ops_nil ?_
        refine Then_normal ?_
        refine wp_seq' ?_
        refine wp_region' ?_
        refine ops_ro' rfl (ro_move rfl) rfl ?_
        refine ops_ro' rfl (ro_sliceLen Try.underlying32 rfl) rfl ?_
        refine ops_ro' rfl (ro_eql rfl rfl (decide_eq_true (by omega))) rfl ?_
        refine ops_ro' rfl (ro_move (v := .bool true) rfl) rfl ?_
        refine ops_skip' rfl rfl ?_
        refine ops_skip' rfl rfl ?_
        refine ops_skip' rfl rfl ?_
        refine ops_skip' rfl rfl ?_
        refine ops_skip' rfl rfl ?_
        refine ops_skip' rfl rfl ?_
        refine ops_skip' rfl rfl ?_
        refine ops_skip' rfl rfl ?_
        refine ops_skip' rfl rfl ?_
        refine ops_skip' rfl rfl ?_
        refine ops_ro' rfl (ro_pick rfl rfl) rfl ?_
        refine ops_ro' rfl (ro_assign rfl) rfl ?_
        refine ops_nil ?_
        refine Then_normal ?_
        refine wp_seq' ?_
        refine wp_seq' ?_
        refine wp_region' ?_
        refine ops_ro' rfl (ro_move rfl) rfl ?_
        refine ops_ro' rfl (ro_move (v := .bool false) rfl) rfl ?_
        refine ops_ro' rfl (ro_move rfl) rfl ?_
        refine ops_ro' rfl (ro_move (v := .bool true) rfl) rfl ?_
        try (have ho : o = none := f4.1 (fun h => by omega); subst ho; (first | refine ops_ansN 0 rfl ?_ | refine ops_ansN 1 rfl ?_ | refine ops_ansN 2 rfl ?_); rintro rfl; simp only [List.eraseIdx_cons_zero, List.eraseIdx_cons_succ])
        refine ops_ro' rfl (ro_move rfl) rfl ?_
        refine ops_ro' rfl (ro_sliceLen Try.underlying36 rfl) rfl ?_
        refine ops_ro' rfl (ro_gtr rfl rfl (decide_eq_false (by omega))) rfl ?_
        refine ops_ro' rfl (ro_pick rfl rfl) rfl ?_
        refine ops_ro' rfl (ro_pick rfl rfl) rfl ?_
        refine ops_ro' rfl (ro_move (v := .bool false) rfl) rfl ?_
        refine ops_ro' rfl (ro_move rfl) rfl ?_
        refine ops_ro' rfl (ro_not rfl rfl) rfl ?_
        refine ops_ro' rfl (ro_move (v := .bool false) rfl) rfl ?_
        refine ops_skip' rfl rfl ?_
        try (have hd : dd2 = true := f4.2 h0 (by omega); subst hd)
        refine ops_skip' rfl rfl ?_
        refine ops_skip' rfl rfl ?_
        refine ops_ro' rfl (ro_pick rfl rfl) rfl ?_
        refine ops_ro' rfl (ro_pick rfl rfl) rfl ?_
        refine ops_nil ?_
        refine Then_normal ?_
        refine wp_condF rfl ?_
        refine wp_skip' ?_
        refine Then_normal ?_
        refine wp_seq' ?_
        refine wp_region' ?_
        refine ops_ro' rfl (ro_move rfl) rfl ?_
        refine ops_eff' rfl (eff_call Try.call27 rfl rfl (by repeat (first | exact Split.nil _ | apply Split.cons 0 rfl | apply Split.cons 1 rfl | apply Split.cons 2 rfl | apply Split.cons 3 rfl | apply Split.cons 4 rfl | apply Split.cons 5 rfl | apply Split.cons 6 rfl | apply Split.cons 7 rfl | apply Split.cons 8 rfl | apply Split.cons 9 rfl | apply Split.cons 10 rfl | apply Split.cons 11 rfl)) (auDead_spec bg p us.length c _)) rfl ?_
        rintro _ H' ⟨_, ⟨rfl, rfl⟩, hH⟩
        simp only [List.cons_append, List.nil_append, List.eraseIdx_cons_zero, List.eraseIdx_cons_succ, List.set_cons_zero, List.set_cons_succ] at hH
        subst hH
        refine ops_split rfl rfl rfl (fun hg84 => ?_) (fun hg84 => ?_)
        · simp only [Bool.and_eq_true, decide_eq_true_eq, Bool.not_eq_true', decide_eq_false_iff_not, bne_iff_ne, ne_eq] at hg84
          refine ops_ro' rfl (ro_move rfl) rfl ?_
          refine ops_ro' rfl (ro_build rfl (bld_struct (cs := Ak.cs ⟨1, 0, [], [], [], [], none, 0⟩) st35 rfl)) rfl ?_
          refine ops_eff' rfl (eff_call Try.call16 rfl rfl (by repeat (first | exact Split.nil _ | apply Split.cons 0 rfl | apply Split.cons 1 rfl | apply Split.cons 2 rfl | apply Split.cons 3 rfl | apply Split.cons 4 rfl | apply Split.cons 5 rfl | apply Split.cons 6 rfl | apply Split.cons 7 rfl | apply Split.cons 8 rfl | apply Split.cons 9 rfl | apply Split.cons 10 rfl | apply Split.cons 11 rfl)) (payload_run V 1 0 [] [] [] [] none 0 (Vw.nil V) (Nat.le_refl _))) rfl ?_
          rintro _ H' ⟨_, ⟨A87, pp87, cc87, rfl, hv87, hc87, rfl⟩, hH⟩
          simp only [List.cons_append, List.nil_append, List.eraseIdx_cons_zero, List.eraseIdx_cons_succ, List.set_cons_zero, List.set_cons_succ] at hH
          subst hH
          refine ops_eff' rfl (eff_callM (Pre := [_]) Try.call24 rfl rfl (by repeat (first | exact Split.nil _ | apply Split.cons 0 rfl | apply Split.cons 1 rfl | apply Split.cons 2 rfl | apply Split.cons 3 rfl | apply Split.cons 4 rfl | apply Split.cons 5 rfl | apply Split.cons 6 rfl | apply Split.cons 7 rfl | apply Split.cons 8 rfl | apply Split.cons 9 rfl | apply Split.cons 10 rfl | apply Split.cons 11 rfl)) (auDo_K _ bg p c _ (Nat.zero_le _) us (by first | exact Vw.pick 0 rfl Vw.row | exact Vw.pick 1 rfl Vw.row | exact Vw.pick 2 rfl Vw.row | exact Vw.pick 3 rfl Vw.row | exact Vw.pick 4 rfl Vw.row | exact Vw.pick 5 rfl Vw.row | exact Vw.pick 6 rfl Vw.row | exact Vw.pick 7 rfl Vw.row | exact Vw.pick 8 rfl Vw.row | exact Vw.nil _ | exact Vw.empty _ _) (by omega) _ (payB ⟨1, 0, [], [], [], [], none, 0⟩) _ (Vw.subH (by repeat (first | exact SubH.nil _ | refine SubH.cons 0 rfl ?_ | refine SubH.cons 1 rfl ?_ | refine SubH.cons 2 rfl ?_ | refine SubH.cons 3 rfl ?_ | refine SubH.cons 4 rfl ?_ | refine SubH.cons 5 rfl ?_ | refine SubH.cons 6 rfl ?_ | refine SubH.cons 7 rfl ?_ | refine SubH.cons 8 rfl ?_ | refine SubH.cons 9 rfl ?_ | refine SubH.cons 10 rfl ?_ | refine SubH.cons 11 rfl ?_ | refine SubH.cons 12 rfl ?_ | refine SubH.cons 13 rfl ?_ | refine SubH.rown ?_)) hv87) hc87 (by rw [show (payB ⟨1, 0, [], [], [], [], none, 0⟩).length = _ from rfl]; decide))) rfl ?_
          rintro _ H' ⟨_, rfl, hH⟩
          simp only [List.cons_append, List.nil_append, List.eraseIdx_cons_zero, List.eraseIdx_cons_succ, List.set_cons_zero, List.set_cons_succ] at hH
          subst hH
          try ((first | rw [gDo_dead (g := ⟨false, 0, us2, false, true⟩) rfl] | rw [gDo_dead (by assumption)]); (first | refine ops_ansN 0 rfl ?_ | refine ops_ansN 1 rfl ?_); rintro rfl; simp only [List.eraseIdx_cons_zero, List.eraseIdx_cons_succ])
          refine ops_ro' rfl (ro_sliceLen Try.underlying36 rfl) rfl ?_
          refine ops_ro' rfl (ro_gtr rfl rfl (decide_eq_false (by omega))) rfl ?_
          refine ops_ro' rfl (ro_pick rfl rfl) rfl ?_
          refine ops_nil ?_
          refine Then_normal ?_
          refine wp_condF rfl ?_
          refine wp_skip' ?_
          refine InBlock_normal ?_
          refine Then_normal ?_
          refine wp_region' ?_
          refine ops_ro' rfl (ro_move rfl) rfl ?_
          refine ops_ro' rfl (ro_add rfl rfl (wrap_inc (by omega))) rfl ?_
          refine ops_ro' rfl (ro_assign rfl) rfl ?_
          refine ops_nil ?_
          refine Then_normal ?_
          refine back (m - 1) (by omega) (kept ⟨i + 1, ⟨false, 0, us2, false, dd2⟩, ⟨by omega, by omega, rfl, rfl, rfl⟩, rfl, rfl⟩ ?_ ?_ ?_)
          · exact (by repeat (first | exact Has.nil _ | refine Has.cons rfl ?_))
          · exact (by repeat (first | exact Has.nil _ | refine Has.cons rfl ?_))
          · exact (SubH.cons 0 rfl (SubH.cons 3 rfl (SubH.cons 1 rfl (SubH.nil _))))
        · simp only [Bool.and_eq_false_iff, decide_eq_false_iff_not, Bool.not_eq_false', decide_eq_true_eq] at hg84
          refine ops_skip' rfl rfl ?_
          refine ops_skip' rfl rfl ?_
          refine ops_skip' rfl rfl ?_
          refine ops_skip' rfl rfl ?_
          try ((first | rw [gDo_dead (g := ⟨false, 0, us2, false, true⟩) rfl] | rw [gDo_dead (by assumption)]); (first | refine ops_ansN 0 rfl ?_ | refine ops_ansN 1 rfl ?_); rintro rfl; simp only [List.eraseIdx_cons_zero, List.eraseIdx_cons_succ])
          refine ops_skip' rfl rfl ?_
          refine ops_skip' rfl rfl ?_
          refine ops_ro' rfl (ro_pick rfl rfl) rfl ?_
          refine ops_nil ?_
          refine Then_normal ?_
          refine wp_condF rfl ?_
          refine wp_skip' ?_
          refine InBlock_normal ?_
          refine Then_normal ?_
          refine wp_region' ?_
          refine ops_ro' rfl (ro_move rfl) rfl ?_
          refine ops_ro' rfl (ro_add rfl rfl (wrap_inc (by omega))) rfl ?_
          refine ops_ro' rfl (ro_assign rfl) rfl ?_
          refine ops_nil ?_
          refine Then_normal ?_
          refine back (m - 1) (by omega) (kept ⟨i + 1, ⟨false, 0, us2, false, dd2⟩, ⟨by omega, by omega, rfl, rfl, rfl⟩, rfl, rfl⟩ ?_ ?_ ?_)
          · exact (by repeat (first | exact Has.nil _ | refine Has.cons rfl ?_))
          · exact (by repeat (first | exact Has.nil _ | refine Has.cons rfl ?_))
          · exact (SubH.cons 0 rfl (SubH.cons 2 rfl (SubH.cons 1 rfl (SubH.nil _))))
    · replace hc24 := of_decide_eq_false hc24
      refine wp_exit' ?_
      refine Then_exit ?_
      refine Then_exit ?_
      refine InBlock_here ?_
      refine Then_normal ?_
      refine wp_seq' ?_
      refine wp_region' ?_
      refine ops_eff' rfl (eff_call Try.call20 rfl rfl (by repeat (first | exact Split.nil _ | apply Split.cons 0 rfl | apply Split.cons 1 rfl | apply Split.cons 2 rfl | apply Split.cons 3 rfl | apply Split.cons 4 rfl | apply Split.cons 5 rfl | apply Split.cons 6 rfl | apply Split.cons 7 rfl | apply Split.cons 8 rfl | apply Split.cons 9 rfl | apply Split.cons 10 rfl | apply Split.cons 11 rfl)) (known11_spec V)) rfl ?_
      rintro _ H' ⟨_, ⟨rfl, rfl⟩, hH⟩
      simp only [List.cons_append, List.nil_append, List.eraseIdx_cons_zero, List.eraseIdx_cons_succ, List.set_cons_zero, List.set_cons_succ] at hH
      subst hH
      refine ops_ro' rfl (ro_assign rfl) rfl ?_
      refine ops_nil ?_
      refine Then_normal ?_
      refine wp_ret' ?_
      refine' doneS_ret (res1 rfl rfl) ?_ ?_
      rotate_left 1
      exact ⟨rfl, rfl⟩
      exact (SubH.cons 0 rfl (SubH.nil _))
  · replace hg21 := of_decide_eq_false hg21
    refine ops_skip' rfl rfl ?_
    refine ops_skip' rfl rfl ?_
    refine ops_ro' rfl (ro_pick rfl rfl) rfl ?_
    refine ops_nil ?_
    refine Then_normal ?_
    refine wp_condF rfl ?_
    refine wp_exit' ?_
    refine Then_exit ?_
    refine Then_exit ?_
    refine InBlock_here ?_
    refine Then_normal ?_
    refine wp_seq' ?_
    refine wp_region' ?_
    refine ops_eff' rfl (eff_call Try.call20 rfl rfl (by repeat (first | exact Split.nil _ | apply Split.cons 0 rfl | apply Split.cons 1 rfl | apply Split.cons 2 rfl | apply Split.cons 3 rfl | apply Split.cons 4 rfl | apply Split.cons 5 rfl | apply Split.cons 6 rfl | apply Split.cons 7 rfl | apply Split.cons 8 rfl | apply Split.cons 9 rfl | apply Split.cons 10 rfl | apply Split.cons 11 rfl)) (known11_spec V)) rfl ?_
    rintro _ H' ⟨_, ⟨rfl, rfl⟩, hH⟩
    simp only [List.cons_append, List.nil_append, List.eraseIdx_cons_zero, List.eraseIdx_cons_succ, List.set_cons_zero, List.set_cons_succ] at hH
    subst hH
    refine ops_ro' rfl (ro_assign rfl) rfl ?_
    refine ops_nil ?_
    refine Then_normal ?_
    refine wp_ret' ?_
    refine' doneS_ret (res1 rfl rfl) ?_ ?_
    rotate_left 1
    exact ⟨rfl, rfl⟩
    exact (SubH.cons 0 rfl (SubH.nil _))

end Go.Proofs.Ytigaolglnnjnmaa
