/-
  The walks of AuthPlays, AuthRaw.
-/
import Derived.Test.YtigaolglnnjnmaaAuthN
import Derived.Test.YtigaolglnnjnmaaOpenAu
namespace Go.Proofs.Ytigaolglnnjnmaa
open Go.Sx
set_option linter.unusedVariables false
set_option linter.unusedSimpArgs false
set_option maxRecDepth 100000
set_option maxHeartbeats 4000000

theorem sub_pack {H L : List HProp} {A B : HProp} (h : SubH H (A :: B :: L)) : SubH H (St [A, B] :: L) := fun w F s => by
  have s1 := h w F s
  rw [St_cons, St_cons] at s1
  rw [St_cons, St_cons, St_cons, St_nil, star_emp, star_assoc A B]; exact s1
theorem sub_flat {H L : List HProp} {A B : HProp} (h : SubH (A :: B :: H) L) : SubH (St [A, B] :: H) L := fun w F s => h w F (by
  rw [St_cons, St_cons, St_cons, St_nil, star_emp, star_assoc A B] at s
  rw [St_cons, St_cons]; exact s)
theorem Xs.subs {H L : List HProp} {xs : List (Slv UInt8)} (h : Xs (St L) xs) (hs : SubH H L) : Xs (St H) xs := fun x hx => ⟨Vw.subH hs (h x hx).1, (h x hx).2⟩
theorem xs_nil (V : HProp) : Xs V [] := fun x hx => by cases hx
theorem xs_snoc {V Q A : HProp} {xs : List (Slv UInt8)} {x : Slv UInt8} (h : Xs (St [Q, V]) xs) (hv : Vw (St [A, V]) (.slice x.p x.l.length x.c) x.l.length (cel x.l)) (hc : x.l.length ≤ x.c) (hl : x.l.length ≤ 600) : Xs (St [St [A, Q], V]) (xs ++ [x]) := fun y hy => by
  rcases List.mem_append.1 hy with hy | hy
  · exact (h.subs (sub_flat (SubH.cons 1 rfl (SubH.cons 1 rfl (SubH.nil _))))) y hy
  · rw [List.mem_singleton.1 hy]; exact ⟨Vw.subH (sub_flat (SubH.cons 0 rfl (SubH.cons 1 rfl (SubH.nil _)))) hv, hc, by omega⟩
theorem authplays_run (V : HProp) (q : Option Addr) (cq : Nat) (l : List Us) (hV : Vw V (.slice q l.length cq) l.length (flat Us.cs l)) (hlq : l.length ≤ 9223372036854775807) (qa : Option Addr) (ca : Nat) (a : List Ak) (hVa : Vw V (.slice qa a.length ca) a.length (flat Ak.cs a)) (hA : ∀ x ∈ a, Vw V (.slice x.p x.b.length x.c) x.b.length (cel x.b) ∧ x.b.length ≤ x.c) :
    Tri Try.prog 5 [.slice q l.length cq, .slice qa a.length ca] [V] (fun v H' => v = .bool true ∧ H' = [V]) := by
  refine tri_of_wpS Try.func5 rfl Try.ntmps5 (by simp) ?_
  refine wp_seq' ?_
  refine wp_region' ?_
  refine ops_ro' rfl (ro_assign rfl) rfl ?_
  refine ops_nil ?_
  refine Then_normal ?_
  refine wp_seq' ?_
  refine wp_region' ?_
  refine ops_ro' rfl (ro_assign rfl) rfl ?_
  refine ops_nil ?_
  refine Then_normal ?_
  refine wp_seq' ?_
  refine wp_seq' ?_
  refine wp_region' ?_
  refine ops_ro' rfl (ro_assign rfl) rfl ?_
  refine ops_nil ?_
  refine Then_normal ?_
  refine wp_block' ?_
  refine wp_loopK 3 (fun m Δ LL => ∃ (i : Nat) (xs : List (Slv UInt8)) (p : Option Addr) (c : Nat) (Q : HProp), (i + m = a.length ∧ i ≤ 30 ∧ xs.length = i ∧ Xs (St [Q, V]) xs) ∧ Δ = [(5, .slice p xs.length c), (6, .int .i64 (i : Nat))] ∧ LL = [Q, row 32 1 (.slice p xs.length c) xs.length (flat Sq.cs xs), V]) (m := a.length) (Has.cons (k := 0) rfl (Has.cons (k := 1) rfl (Has.nil _))) (kept ⟨0, [], none, 0, row 32 1 (.slice none 0 0) 0 [], ⟨by omega, by omega, rfl, xs_nil _⟩, rfl, rfl⟩ (by repeat (first | exact Has.nil _ | refine Has.cons rfl ?_)) (by repeat (first | exact Has.nil _ | refine Has.cons rfl ?_)) (by repeat (first | exact SubH.nil _ | refine SubH.cons 0 rfl ?_ | refine SubH.cons 1 rfl ?_ | refine SubH.cons 2 rfl ?_ | refine SubH.cons 3 rfl ?_ | refine SubH.cons 4 rfl ?_ | refine SubH.cons 5 rfl ?_ | refine SubH.cons 6 rfl ?_ | refine SubH.cons 7 rfl ?_ | refine SubH.cons 8 rfl ?_ | refine SubH.cons 9 rfl ?_ | refine SubH.cons 10 rfl ?_ | refine SubH.cons 11 rfl ?_ | refine SubH.cons 12 rfl ?_ | refine SubH.cons 13 rfl ?_ | refine SubH.rown ?_))) ?_
  rintro m Δ LL ⟨i, xs, p, c, Q, ⟨hm, hi30, hxl, hxs⟩, rfl, rfl⟩
  simp only [List.cons_append, List.nil_append]
  refine wp_seq' ?_
  refine wp_seq' ?_
  refine wp_region' ?_
  refine ops_ro' rfl (ro_move rfl) rfl ?_
  refine ops_ro' rfl (ro_move rfl) rfl ?_
  refine ops_ro' rfl (ro_sliceLen Try.underlying41 rfl) rfl ?_
  refine ops_ro' rfl (ro_lss rfl rfl rfl) rfl ?_
  refine ops_split rfl rfl rfl (fun hg11 => ?_) (fun hg11 => ?_)
  · replace hg11 := of_decide_eq_true hg11
    refine ops_ro' rfl (ro_move rfl) rfl ?_
    refine ops_ro' rfl (ro_lss rfl rfl rfl) rfl ?_
    refine ops_ro' rfl (ro_pick rfl rfl) rfl ?_
    refine ops_nil ?_
    refine Then_normal ?_
    refine wp_cond' rfl (fun hc14 => ?_) (fun hc14 => ?_)
    · replace hc14 := of_decide_eq_true hc14
      refine wp_skip' ?_
      refine Then_normal ?_
      refine wp_seq' ?_
      refine wp_block' ?_
      have hi : i < a.length := by omega
      obtain ⟨hB, hBc⟩ := hA a[i] (List.getElem_mem hi)
      refine wp_know (fun w F s => vw_ptr (Vw.pick (H := [_, _, V]) 2 rfl hVa) s (by omega)) ?_
      rintro ⟨b7, o7, rfl⟩
      refine wp_region' ?_
      refine ops_ro' rfl (ro_move rfl) rfl ?_
      refine ops_ro' rfl (ro_move rfl) rfl ?_
      refine ops_ro' rfl (ro_move rfl) rfl ?_
      refine ops_ro' rfl (ro_indexSlice sl41 rfl rfl rfl (by omega)) rfl ?_
      refine ops_ro' rfl (ro_loadA ag35 rfl (RdN.of_pick 2 rfl ((RdN.elem (vw_rdn hVa) Ak.len (List.getElem?_eq_getElem hi)))) rfl) rfl ?_
      refine ops_eff' rfl (eff_call Try.call16 rfl rfl (by repeat (first | exact Split.nil _ | apply Split.cons 0 rfl | apply Split.cons 1 rfl | apply Split.cons 2 rfl | apply Split.cons 3 rfl | apply Split.cons 4 rfl | apply Split.cons 5 rfl | apply Split.cons 6 rfl | apply Split.cons 7 rfl | apply Split.cons 8 rfl | apply Split.cons 9 rfl | apply Split.cons 10 rfl | apply Split.cons 11 rfl)) (payload_run V a[i].kind a[i].n a[i].user a[i].pass a[i].name a[i].b a[i].p a[i].c hB hBc)) rfl ?_
      rintro _ H' ⟨_, ⟨A22, pp, cc, rfl, hv, hc, rfl⟩, hH⟩
      simp only [List.cons_append, List.nil_append, List.eraseIdx_cons_zero, List.eraseIdx_cons_succ, List.set_cons_zero, List.set_cons_succ] at hH
      subst hH
      have hxl2 := payB_len ⟨a[i].kind, a[i].n, a[i].user, a[i].pass, a[i].name, a[i].b, a[i].p, a[i].c⟩
      generalize payB ⟨a[i].kind, a[i].n, a[i].user, a[i].pass, a[i].name, a[i].b, a[i].p, a[i].c⟩ = z at *
      obtain ⟨x22, hx22⟩ : ∃ x : Slv UInt8, x = ⟨pp, cc, z⟩ := ⟨_, rfl⟩
      obtain ⟨e1, e2, e3⟩ : pp = x22.p ∧ cc = x22.c ∧ z = x22.l := by subst hx22; exact ⟨rfl, rfl, rfl⟩
      subst e1 e2 e3
      clear hx22
      refine ops_eff' rfl (eff_lit sl36 rfl (sbld (cs := flat Sq.cs [x22]) [(.slice none 0 0)] sl36 (by decide) (by kernel_rfl) rfl) rfl (by decide)) rfl ?_
      rintro _ _ ⟨b23, rfl, rfl⟩
      refine ops_eff' rfl (eff_appF (f := Sq.cs) (l2 := [x22]) 4 sl36 (.inl ⟨32, Try.underlying36⟩) rfl rfl rfl (by first | exact Src.flatv Sq.len Sq.one (Vw.pick 0 rfl Vw.row) | exact Src.flatv Sq.len Sq.one (Vw.pick 1 rfl Vw.row) | exact Src.flatv Sq.len Sq.one (Vw.pick 2 rfl Vw.row) | exact Src.flatv Sq.len Sq.one (Vw.pick 3 rfl Vw.row) | exact Src.flatv Sq.len Sq.one (Vw.pick 4 rfl Vw.row) | exact Src.flatv Sq.len Sq.one (Vw.pick 5 rfl Vw.row) | exact Src.flatv Sq.len Sq.one (Vw.pick 6 rfl Vw.row) | exact Src.flatv Sq.len Sq.one (Vw.pick 7 rfl Vw.row) | exact Src.flatv Sq.len Sq.one (Vw.pick 8 rfl Vw.row)) (by simp only [List.length_cons, List.length_nil]; omega) (by simp only [List.length_cons, List.length_nil]; omega)) rfl ?_
      rintro _ _ ⟨p24, c24, rfl, hn24, rfl⟩
      simp only [List.set_cons_zero, List.set_cons_succ]
      refine ops_ro' rfl (ro_assign rfl) rfl ?_
      refine ops_nil ?_
      refine InBlock_normal ?_
      refine Then_normal ?_
      refine wp_sub' (L := [St [A22, Q], row 32 1 (.slice p24 (xs ++ [x22]).length c24) (xs ++ [x22]).length (flat Sq.cs (xs ++ [x22])), V]) (sub_pack (by repeat (first | exact SubH.nil _ | refine SubH.cons 0 rfl ?_ | refine SubH.cons 1 rfl ?_ | refine SubH.cons 2 rfl ?_ | refine SubH.cons 3 rfl ?_ | refine SubH.cons 4 rfl ?_ | refine SubH.cons 5 rfl ?_ | refine SubH.cons 6 rfl ?_ | refine SubH.cons 7 rfl ?_ | refine SubH.cons 8 rfl ?_ | refine SubH.cons 9 rfl ?_ | refine SubH.cons 10 rfl ?_ | refine SubH.cons 11 rfl ?_ | refine SubH.cons 12 rfl ?_ | refine SubH.cons 13 rfl ?_ | refine SubH.rown ?_))) ?_
      refine wp_region' ?_
      refine ops_ro' rfl (ro_move rfl) rfl ?_
      refine ops_ro' rfl (ro_add rfl rfl (wrap_inc (by omega))) rfl ?_
      refine ops_ro' rfl (ro_assign rfl) rfl ?_
      refine ops_nil ?_
      refine Then_normal ?_
      refine back (m - 1) (by omega) (kept ⟨i + 1, xs ++ [x22], p24, c24, St [A22, Q], ⟨by omega, by omega, by simp [hxl], xs_snoc hxs hv hc hxl2⟩, rfl, rfl⟩ ?_ ?_ ?_)
      · exact (by repeat (first | exact Has.nil _ | refine Has.cons rfl ?_))
      · exact (by repeat (first | exact Has.nil _ | refine Has.cons rfl ?_))
      · exact SubH.refl _
    · replace hc14 := of_decide_eq_false hc14
      refine wp_exit' ?_
      refine Then_exit ?_
      refine Then_exit ?_
      refine InBlock_here ?_
      refine Then_normal ?_
      refine wp_seq' ?_
      refine wp_region' ?_
      refine ops_ro' rfl (ro_move rfl) rfl ?_
      refine ops_eff' rfl (eff_call Try.call21 rfl rfl (by repeat (first | exact Split.nil _ | apply Split.cons 0 rfl | apply Split.cons 1 rfl | apply Split.cons 2 rfl | apply Split.cons 3 rfl | apply Split.cons 4 rfl | apply Split.cons 5 rfl | apply Split.cons 6 rfl | apply Split.cons 7 rfl | apply Split.cons 8 rfl | apply Split.cons 9 rfl | apply Split.cons 10 rfl | apply Split.cons 11 rfl)) (users_spec V q cq l hV hlq)) rfl ?_
      rintro _ H' ⟨_, ⟨_, ⟨p26, c26, rfl, rfl⟩, rfl⟩, hH⟩
      simp only [List.cons_append, List.nil_append, List.eraseIdx_cons_zero, List.eraseIdx_cons_succ, List.set_cons_zero, List.set_cons_succ] at hH
      subst hH
      have hus : (usr (l.take 5)).length ≤ 5 := by rw [usr, List.length_map, List.length_take]; omega
      generalize usr (l.take 5) = us at *
      refine ops_ro' rfl (ro_move rfl) rfl ?_
      refine ops_eff' rfl (eff_callM (Pre := []) Try.call17 rfl rfl (Split.nil _) (plays_spec _ p26 c26 us (by first | exact Vw.pick 0 rfl Vw.row | exact Vw.pick 1 rfl Vw.row | exact Vw.pick 2 rfl Vw.row | exact Vw.pick 3 rfl Vw.row | exact Vw.pick 4 rfl Vw.row | exact Vw.pick 5 rfl Vw.row | exact Vw.pick 6 rfl Vw.row | exact Vw.pick 7 rfl Vw.row | exact Vw.pick 8 rfl Vw.row | exact Vw.nil _ | exact Vw.empty _ _) (by omega) p c xs (by first | exact Vw.pick 0 rfl Vw.row | exact Vw.pick 1 rfl Vw.row | exact Vw.pick 2 rfl Vw.row | exact Vw.pick 3 rfl Vw.row | exact Vw.pick 4 rfl Vw.row | exact Vw.pick 5 rfl Vw.row | exact Vw.pick 6 rfl Vw.row | exact Vw.pick 7 rfl Vw.row | exact Vw.pick 8 rfl Vw.row | exact Vw.nil _ | exact Vw.empty _ _) (by omega) (hxs.subs (by repeat (first | exact SubH.nil _ | refine SubH.cons 0 rfl ?_ | refine SubH.cons 1 rfl ?_ | refine SubH.cons 2 rfl ?_ | refine SubH.cons 3 rfl ?_ | refine SubH.cons 4 rfl ?_ | refine SubH.cons 5 rfl ?_ | refine SubH.cons 6 rfl ?_ | refine SubH.cons 7 rfl ?_ | refine SubH.cons 8 rfl ?_ | refine SubH.cons 9 rfl ?_ | refine SubH.cons 10 rfl ?_ | refine SubH.cons 11 rfl ?_ | refine SubH.cons 12 rfl ?_ | refine SubH.cons 13 rfl ?_ | refine SubH.rown ?_))))) rfl ?_
      rintro _ H' ⟨_, ⟨rfl, rfl⟩, hH⟩
      simp only [List.cons_append, List.nil_append, List.eraseIdx_cons_zero, List.eraseIdx_cons_succ, List.set_cons_zero, List.set_cons_succ] at hH
      subst hH
      refine ops_ro' rfl (ro_move (v := .bool true) rfl) rfl ?_
      refine ops_eff' rfl (eff_call Try.call20 rfl rfl (by repeat (first | exact Split.nil _ | apply Split.cons 0 rfl | apply Split.cons 1 rfl | apply Split.cons 2 rfl | apply Split.cons 3 rfl | apply Split.cons 4 rfl | apply Split.cons 5 rfl | apply Split.cons 6 rfl | apply Split.cons 7 rfl | apply Split.cons 8 rfl | apply Split.cons 9 rfl | apply Split.cons 10 rfl | apply Split.cons 11 rfl)) (known11_spec V)) rfl ?_
      rintro _ H' ⟨_, ⟨rfl, rfl⟩, hH⟩
      simp only [List.cons_append, List.nil_append, List.eraseIdx_cons_zero, List.eraseIdx_cons_succ, List.set_cons_zero, List.set_cons_succ] at hH
      subst hH
      refine ops_ro' rfl (ro_pick rfl rfl) rfl ?_
      refine ops_ro' rfl (ro_assign rfl) rfl ?_
      refine ops_nil ?_
      refine Then_normal ?_
      refine wp_ret' ?_
      refine' doneS_ret (res1 rfl rfl) ?_ ?_
      rotate_left 1
      exact ⟨rfl, rfl⟩
      exact (SubH.cons 0 rfl (SubH.nil _))
  · replace hg11 := of_decide_eq_false hg11
    refine ops_skip' rfl rfl ?_
    refine ops_skip' rfl rfl ?_
    refine ops_ro' rfl (ro_pick rfl rfl) rfl ?_
    refine ops_nil ?_
    refine Then_normal ?_
    refine wp_condF rfl ?_
    refine wp_exit' ?_
    refine Then_exit ?_
    refine Then_exit ?_
    refine InBlock_here ?_
    refine Then_normal ?_
    refine wp_seq' ?_
    refine wp_region' ?_
    refine ops_ro' rfl (ro_move rfl) rfl ?_
    refine ops_eff' rfl (eff_call Try.call21 rfl rfl (by repeat (first | exact Split.nil _ | apply Split.cons 0 rfl | apply Split.cons 1 rfl | apply Split.cons 2 rfl | apply Split.cons 3 rfl | apply Split.cons 4 rfl | apply Split.cons 5 rfl | apply Split.cons 6 rfl | apply Split.cons 7 rfl | apply Split.cons 8 rfl | apply Split.cons 9 rfl | apply Split.cons 10 rfl | apply Split.cons 11 rfl)) (users_spec V q cq l hV hlq)) rfl ?_
    rintro _ H' ⟨_, ⟨_, ⟨p26, c26, rfl, rfl⟩, rfl⟩, hH⟩
    simp only [List.cons_append, List.nil_append, List.eraseIdx_cons_zero, List.eraseIdx_cons_succ, List.set_cons_zero, List.set_cons_succ] at hH
    subst hH
    have hus : (usr (l.take 5)).length ≤ 5 := by rw [usr, List.length_map, List.length_take]; omega
    generalize usr (l.take 5) = us at *
    refine ops_ro' rfl (ro_move rfl) rfl ?_
    refine ops_eff' rfl (eff_callM (Pre := []) Try.call17 rfl rfl (Split.nil _) (plays_spec _ p26 c26 us (by first | exact Vw.pick 0 rfl Vw.row | exact Vw.pick 1 rfl Vw.row | exact Vw.pick 2 rfl Vw.row | exact Vw.pick 3 rfl Vw.row | exact Vw.pick 4 rfl Vw.row | exact Vw.pick 5 rfl Vw.row | exact Vw.pick 6 rfl Vw.row | exact Vw.pick 7 rfl Vw.row | exact Vw.pick 8 rfl Vw.row | exact Vw.nil _ | exact Vw.empty _ _) (by omega) p c xs (by first | exact Vw.pick 0 rfl Vw.row | exact Vw.pick 1 rfl Vw.row | exact Vw.pick 2 rfl Vw.row | exact Vw.pick 3 rfl Vw.row | exact Vw.pick 4 rfl Vw.row | exact Vw.pick 5 rfl Vw.row | exact Vw.pick 6 rfl Vw.row | exact Vw.pick 7 rfl Vw.row | exact Vw.pick 8 rfl Vw.row | exact Vw.nil _ | exact Vw.empty _ _) (by omega) (hxs.subs (by repeat (first | exact SubH.nil _ | refine SubH.cons 0 rfl ?_ | refine SubH.cons 1 rfl ?_ | refine SubH.cons 2 rfl ?_ | refine SubH.cons 3 rfl ?_ | refine SubH.cons 4 rfl ?_ | refine SubH.cons 5 rfl ?_ | refine SubH.cons 6 rfl ?_ | refine SubH.cons 7 rfl ?_ | refine SubH.cons 8 rfl ?_ | refine SubH.cons 9 rfl ?_ | refine SubH.cons 10 rfl ?_ | refine SubH.cons 11 rfl ?_ | refine SubH.cons 12 rfl ?_ | refine SubH.cons 13 rfl ?_ | refine SubH.rown ?_))))) rfl ?_
    rintro _ H' ⟨_, ⟨rfl, rfl⟩, hH⟩
    simp only [List.cons_append, List.nil_append, List.eraseIdx_cons_zero, List.eraseIdx_cons_succ, List.set_cons_zero, List.set_cons_succ] at hH
    subst hH
    refine ops_ro' rfl (ro_move (v := .bool true) rfl) rfl ?_
    refine ops_eff' rfl (eff_call Try.call20 rfl rfl (by repeat (first | exact Split.nil _ | apply Split.cons 0 rfl | apply Split.cons 1 rfl | apply Split.cons 2 rfl | apply Split.cons 3 rfl | apply Split.cons 4 rfl | apply Split.cons 5 rfl | apply Split.cons 6 rfl | apply Split.cons 7 rfl | apply Split.cons 8 rfl | apply Split.cons 9 rfl | apply Split.cons 10 rfl | apply Split.cons 11 rfl)) (known11_spec V)) rfl ?_
    rintro _ H' ⟨_, ⟨rfl, rfl⟩, hH⟩
    simp only [List.cons_append, List.nil_append, List.eraseIdx_cons_zero, List.eraseIdx_cons_succ, List.set_cons_zero, List.set_cons_succ] at hH
    subst hH
    refine ops_ro' rfl (ro_pick rfl rfl) rfl ?_
    refine ops_ro' rfl (ro_assign rfl) rfl ?_
    refine ops_nil ?_
    refine Then_normal ?_
    refine wp_ret' ?_
    refine' doneS_ret (res1 rfl rfl) ?_ ?_
    rotate_left 1
    exact ⟨rfl, rfl⟩
    exact (SubH.cons 0 rfl (SubH.nil _))


theorem xs_one {V A : HProp} {x : Slv UInt8} (hv : Vw (St [A, V]) (.slice x.p x.l.length x.c) x.l.length (cel x.l)) (hc : x.l.length ≤ x.c) (hl : x.l.length ≤ 600) : Xs (St [A, V]) [x] := fun y hy => by
  rw [List.mem_singleton.1 hy]; exact ⟨hv, hc, by omega⟩
theorem xs_more {V Q : HProp} {xs : List (Slv UInt8)} {x : Slv UInt8} (h : Xs (St [Q, V]) xs) (hv : Vw V (.slice x.p x.l.length x.c) x.l.length (cel x.l)) (hc : x.l.length ≤ x.c) (hl : x.l.length ≤ 600) : Xs (St [Q, V]) (xs ++ [x]) := fun y hy => by
  rcases List.mem_append.1 hy with hy | hy
  · exact h y hy
  · rw [List.mem_singleton.1 hy]; exact ⟨Vw.pick 1 rfl hv, hc, by omega⟩
theorem authraw_run (V : HProp) (q : Option Addr) (cq : Nat) (l : List Us) (hV : Vw V (.slice q l.length cq) l.length (flat Us.cs l)) (hlq : l.length ≤ 9223372036854775807) (qa : Option Addr) (ca : Nat) (a : List (Slv UInt8)) (hVa : Vw V (.slice qa a.length ca) a.length (flat Sq.cs a)) (hA : ∀ x ∈ a, Vw V (.slice x.p x.l.length x.c) x.l.length (cel x.l) ∧ x.l.length ≤ x.c) (bg : Bool) :
    Tri Try.prog 6 [.slice q l.length cq, .slice qa a.length ca, .bool bg] [V] (fun v H' => v = .bool true ∧ H' = [V]) := by
  refine tri_of_wpS Try.func6 rfl Try.ntmps6 (by simp) ?_
  refine wp_seq' ?_
  refine wp_region' ?_
  refine ops_ro' rfl (ro_assign rfl) rfl ?_
  refine ops_nil ?_
  refine Then_normal ?_
  refine wp_seq' ?_
  refine wp_region' ?_
  refine ops_ro' rfl (ro_assign rfl) rfl ?_
  refine ops_nil ?_
  refine Then_normal ?_
  refine wp_cutK 1004 (fun Δ LL => ∃ (xs : List (Slv UInt8)) (p : Option Addr) (c : Nat) (Q : HProp), (xs.length ≤ 1 ∧ Xs (St [Q, V]) xs) ∧ Δ = [(7, .slice p xs.length c)] ∧ LL = [Q, row 32 1 (.slice p xs.length c) xs.length (flat Sq.cs xs), V]) (Has.cons (k := 0) rfl (Has.cons (k := 1) rfl (Has.nil _))) ?_ ?_
  · refine wp_seq' ?_
    refine wp_region' ?_
    refine ops_ro' rfl (ro_move rfl) rfl ?_
    refine ops_nil ?_
    refine Then_normal ?_
    refine wp_cond' rfl (fun hc9 => ?_) (fun hc9 => ?_)
    · skip
      refine wp_heap (fun w F s => nil_row 32 1 w F s) ?_
      refine wp_region' ?_
      refine ops_ro' rfl (ro_move rfl) rfl ?_
      refine ops_ro' rfl (ro_build rfl (bld_struct (cs := Ak.cs ⟨1, 0, [], [], [], [], none, 0⟩) st35 rfl)) rfl ?_
      refine ops_eff' rfl (eff_call Try.call16 rfl rfl (by repeat (first | exact Split.nil _ | apply Split.cons 0 rfl | apply Split.cons 1 rfl | apply Split.cons 2 rfl | apply Split.cons 3 rfl | apply Split.cons 4 rfl | apply Split.cons 5 rfl | apply Split.cons 6 rfl | apply Split.cons 7 rfl | apply Split.cons 8 rfl | apply Split.cons 9 rfl | apply Split.cons 10 rfl | apply Split.cons 11 rfl)) (payload_run V 1 0 [] [] [] [] none 0 (Vw.nil V) (Nat.le_refl _))) rfl ?_
      rintro _ H' ⟨_, ⟨A12, pp, cc, rfl, hv, hc, rfl⟩, hH⟩
      simp only [List.cons_append, List.nil_append, List.eraseIdx_cons_zero, List.eraseIdx_cons_succ, List.set_cons_zero, List.set_cons_succ] at hH
      subst hH
      have hxl2 := payB_len ⟨1, 0, [], [], [], [], none, 0⟩
      generalize payB ⟨1, 0, [], [], [], [], none, 0⟩ = z at *
      obtain ⟨x12, hx12⟩ : ∃ x : Slv UInt8, x = ⟨pp, cc, z⟩ := ⟨_, rfl⟩
      obtain ⟨e1, e2, e3⟩ : pp = x12.p ∧ cc = x12.c ∧ z = x12.l := by subst hx12; exact ⟨rfl, rfl, rfl⟩
      subst e1 e2 e3
      clear hx12
      refine ops_eff' rfl (eff_lit sl36 rfl (sbld (cs := flat Sq.cs [x12]) [(.slice none 0 0)] sl36 (by decide) (by kernel_rfl) rfl) rfl (by decide)) rfl ?_
      rintro _ _ ⟨b13, rfl, rfl⟩
      refine ops_eff' rfl (eff_appF (f := Sq.cs) (l := []) (l2 := [x12]) 3 sl36 (.inl ⟨32, Try.underlying36⟩) rfl rfl rfl (by first | exact Src.flatv Sq.len Sq.one (Vw.pick 0 rfl Vw.row) | exact Src.flatv Sq.len Sq.one (Vw.pick 1 rfl Vw.row) | exact Src.flatv Sq.len Sq.one (Vw.pick 2 rfl Vw.row) | exact Src.flatv Sq.len Sq.one (Vw.pick 3 rfl Vw.row) | exact Src.flatv Sq.len Sq.one (Vw.pick 4 rfl Vw.row) | exact Src.flatv Sq.len Sq.one (Vw.pick 5 rfl Vw.row) | exact Src.flatv Sq.len Sq.one (Vw.pick 6 rfl Vw.row) | exact Src.flatv Sq.len Sq.one (Vw.pick 7 rfl Vw.row) | exact Src.flatv Sq.len Sq.one (Vw.pick 8 rfl Vw.row)) (by simp only [List.length_cons, List.length_nil]; omega) (by simp only [List.length_cons, List.length_nil]; omega)) rfl ?_
      rintro _ _ ⟨p14, c14, rfl, hn14, rfl⟩
      simp only [List.set_cons_zero, List.set_cons_succ, List.nil_append]
      refine ops_ro' rfl (ro_assign rfl) rfl ?_
      refine ops_nil ?_
      refine Then_normal ?_
      refine over_cut (kept ⟨[x12], p14, c14, A12, ⟨by simp, xs_one hv hc hxl2⟩, rfl, rfl⟩ ?_ ?_ ?_)
      · exact (by repeat (first | exact Has.nil _ | refine Has.cons rfl ?_))
      · exact (by repeat (first | exact Has.nil _ | refine Has.cons rfl ?_))
      · exact (SubH.cons 1 rfl (SubH.cons 2 rfl (SubH.cons 1 rfl (SubH.nil _))))
    · skip
      refine wp_skip' ?_
      refine Then_normal ?_
      refine over_cut (kept ⟨[], none, 0, row 32 1 (.slice none 0 0) 0 [], ⟨by simp, xs_nil _⟩, rfl, rfl⟩ ?_ ?_ ?_)
      · exact (by repeat (first | exact Has.nil _ | refine Has.cons rfl ?_))
      · exact (by repeat (first | exact Has.nil _ | refine Has.cons rfl ?_))
      · exact (SubH.rown (SubH.rown (SubH.cons 0 rfl (SubH.nil _))))
  · rintro Δ LL ⟨xs, p, c, Q, ⟨hxl0, hxs⟩, rfl, rfl⟩
    simp only [List.cons_append, List.nil_append]
    refine wp_seq' ?_
    refine wp_seq' ?_
    refine wp_region' ?_
    refine ops_ro' rfl (ro_assign rfl) rfl ?_
    refine ops_nil ?_
    refine Then_normal ?_
    refine wp_block' ?_
    refine wp_loopK 5 (fun m Δ LL => ∃ (i : Nat) (xs : List (Slv UInt8)) (p : Option Addr) (c : Nat) (Q : HProp), (i + m = a.length ∧ i ≤ 30 ∧ xs.length ≤ i + 1 ∧ Xs (St [Q, V]) xs) ∧ Δ = [(7, .slice p xs.length c), (8, .int .i64 (i : Nat))] ∧ LL = [Q, row 32 1 (.slice p xs.length c) xs.length (flat Sq.cs xs), V]) (m := a.length) (Has.cons (k := 0) rfl (Has.cons (k := 1) rfl (Has.nil _))) (kept ⟨0, xs, p, c, Q, ⟨by omega, by omega, by omega, hxs⟩, rfl, rfl⟩ (by repeat (first | exact Has.nil _ | refine Has.cons rfl ?_)) (by repeat (first | exact Has.nil _ | refine Has.cons rfl ?_)) (by repeat (first | exact SubH.nil _ | refine SubH.cons 0 rfl ?_ | refine SubH.cons 1 rfl ?_ | refine SubH.cons 2 rfl ?_ | refine SubH.cons 3 rfl ?_ | refine SubH.cons 4 rfl ?_ | refine SubH.cons 5 rfl ?_ | refine SubH.cons 6 rfl ?_ | refine SubH.cons 7 rfl ?_ | refine SubH.cons 8 rfl ?_ | refine SubH.cons 9 rfl ?_ | refine SubH.cons 10 rfl ?_ | refine SubH.cons 11 rfl ?_ | refine SubH.cons 12 rfl ?_ | refine SubH.cons 13 rfl ?_ | refine SubH.rown ?_))) ?_
    rintro m Δ LL ⟨i, xs, p, c, Q, ⟨hm, hi30, hxl, hxs⟩, rfl, rfl⟩
    simp only [List.cons_append, List.nil_append]
    refine wp_seq' ?_
    refine wp_seq' ?_
    refine wp_region' ?_
    refine ops_ro' rfl (ro_move rfl) rfl ?_
    refine ops_ro' rfl (ro_move rfl) rfl ?_
    refine ops_ro' rfl (ro_sliceLen Try.underlying36 rfl) rfl ?_
    refine ops_ro' rfl (ro_lss rfl rfl rfl) rfl ?_
    refine ops_split rfl rfl rfl (fun hg19 => ?_) (fun hg19 => ?_)
    · replace hg19 := of_decide_eq_true hg19
      refine ops_ro' rfl (ro_move rfl) rfl ?_
      refine ops_ro' rfl (ro_lss rfl rfl rfl) rfl ?_
      refine ops_ro' rfl (ro_pick rfl rfl) rfl ?_
      refine ops_nil ?_
      refine Then_normal ?_
      refine wp_cond' rfl (fun hc22 => ?_) (fun hc22 => ?_)
      · replace hc22 := of_decide_eq_true hc22
        refine wp_skip' ?_
        refine Then_normal ?_
        refine wp_seq' ?_
        refine wp_block' ?_
        have hi : i < a.length := by omega
        obtain ⟨hB, hBc⟩ := hA a[i] (List.getElem_mem hi)
        refine wp_know (fun w F s => vw_ptr (Vw.pick (H := [_, _, V]) 2 rfl hVa) s (by omega)) ?_
        rintro ⟨b7, o7, rfl⟩
        refine wp_region' ?_
        refine ops_ro' rfl (ro_move rfl) rfl ?_
        refine ops_ro' rfl (ro_move rfl) rfl ?_
        refine ops_ro' rfl (ro_move rfl) rfl ?_
        refine ops_ro' rfl (ro_indexSlice sl36 rfl rfl rfl (by omega)) rfl ?_
        refine ops_ro' rfl (ro_load sc32 rfl (Rd.pick 2 rfl (Rd.elem (j := 0) (vw_rdn hVa) Sq.len (List.getElem?_eq_getElem hi) rfl))) rfl ?_
        refine ops_eff' rfl (eff_call Try.call22 rfl rfl (by repeat (first | exact Split.nil _ | apply Split.cons 0 rfl | apply Split.cons 1 rfl | apply Split.cons 2 rfl | apply Split.cons 3 rfl | apply Split.cons 4 rfl | apply Split.cons 5 rfl | apply Split.cons 6 rfl | apply Split.cons 7 rfl | apply Split.cons 8 rfl | apply Split.cons 9 rfl | apply Split.cons 10 rfl | apply Split.cons 11 rfl)) (kCut V a[i].p a[i].c a[i].l 150 hB hBc)) rfl ?_
        rintro _ H' ⟨_, ⟨_, ⟨pp, cc, rfl, hv, hc, rfl⟩, rfl⟩, hH⟩
        simp only [List.cons_append, List.nil_append, List.eraseIdx_cons_zero, List.eraseIdx_cons_succ, List.set_cons_zero, List.set_cons_succ] at hH
        subst hH
        have hxl2 : (a[i].l.take 150).length ≤ 600 := by rw [List.length_take]; omega
        generalize a[i].l.take 150 = z at *
        obtain ⟨x30, hx30⟩ : ∃ x : Slv UInt8, x = ⟨pp, cc, z⟩ := ⟨_, rfl⟩
        obtain ⟨e1, e2, e3⟩ : pp = x30.p ∧ cc = x30.c ∧ z = x30.l := by subst hx30; exact ⟨rfl, rfl, rfl⟩
        subst e1 e2 e3
        clear hx30
        refine ops_eff' rfl (eff_lit sl36 rfl (sbld (cs := flat Sq.cs [x30]) [(.slice none 0 0)] sl36 (by decide) (by kernel_rfl) rfl) rfl (by decide)) rfl ?_
        rintro _ _ ⟨b31, rfl, rfl⟩
        refine ops_eff' rfl (eff_appF (f := Sq.cs) (l2 := [x30]) 3 sl36 (.inl ⟨32, Try.underlying36⟩) rfl rfl rfl (by first | exact Src.flatv Sq.len Sq.one (Vw.pick 0 rfl Vw.row) | exact Src.flatv Sq.len Sq.one (Vw.pick 1 rfl Vw.row) | exact Src.flatv Sq.len Sq.one (Vw.pick 2 rfl Vw.row) | exact Src.flatv Sq.len Sq.one (Vw.pick 3 rfl Vw.row) | exact Src.flatv Sq.len Sq.one (Vw.pick 4 rfl Vw.row) | exact Src.flatv Sq.len Sq.one (Vw.pick 5 rfl Vw.row) | exact Src.flatv Sq.len Sq.one (Vw.pick 6 rfl Vw.row) | exact Src.flatv Sq.len Sq.one (Vw.pick 7 rfl Vw.row) | exact Src.flatv Sq.len Sq.one (Vw.pick 8 rfl Vw.row)) (by simp only [List.length_cons, List.length_nil]; omega) (by simp only [List.length_cons, List.length_nil]; omega)) rfl ?_
        rintro _ _ ⟨p32, c32, rfl, hn32, rfl⟩
        simp only [List.set_cons_zero, List.set_cons_succ]
        refine ops_ro' rfl (ro_assign rfl) rfl ?_
        refine ops_nil ?_
        refine InBlock_normal ?_
        refine Then_normal ?_
        refine wp_region' ?_
        refine ops_ro' rfl (ro_move rfl) rfl ?_
        refine ops_ro' rfl (ro_add rfl rfl (wrap_inc (by omega))) rfl ?_
        refine ops_ro' rfl (ro_assign rfl) rfl ?_
        refine ops_nil ?_
        refine Then_normal ?_
        refine back (m - 1) (by omega) (kept ⟨i + 1, xs ++ [x30], p32, c32, Q, ⟨by omega, by omega, by simp; omega, xs_more hxs hv hc hxl2⟩, rfl, rfl⟩ ?_ ?_ ?_)
        · exact (by repeat (first | exact Has.nil _ | refine Has.cons rfl ?_))
        · exact (by repeat (first | exact Has.nil _ | refine Has.cons rfl ?_))
        · exact (SubH.cons 2 rfl (SubH.cons 2 rfl (SubH.cons 1 rfl (SubH.nil _))))
      · replace hc22 := of_decide_eq_false hc22
        refine wp_exit' ?_
        refine Then_exit ?_
        refine Then_exit ?_
        refine InBlock_here ?_
        refine Then_normal ?_
        refine wp_seq' ?_
        refine wp_region' ?_
        refine ops_ro' rfl (ro_move rfl) rfl ?_
        refine ops_eff' rfl (eff_call Try.call21 rfl rfl (by repeat (first | exact Split.nil _ | apply Split.cons 0 rfl | apply Split.cons 1 rfl | apply Split.cons 2 rfl | apply Split.cons 3 rfl | apply Split.cons 4 rfl | apply Split.cons 5 rfl | apply Split.cons 6 rfl | apply Split.cons 7 rfl | apply Split.cons 8 rfl | apply Split.cons 9 rfl | apply Split.cons 10 rfl | apply Split.cons 11 rfl)) (users_spec V q cq l hV hlq)) rfl ?_
        rintro _ H' ⟨_, ⟨_, ⟨p34, c34, rfl, rfl⟩, rfl⟩, hH⟩
        simp only [List.cons_append, List.nil_append, List.eraseIdx_cons_zero, List.eraseIdx_cons_succ, List.set_cons_zero, List.set_cons_succ] at hH
        subst hH
        have hus : (usr (l.take 5)).length ≤ 5 := by rw [usr, List.length_map, List.length_take]; omega
        generalize usr (l.take 5) = us at *
        refine ops_ro' rfl (ro_move rfl) rfl ?_
        refine ops_eff' rfl (eff_callM (Pre := []) Try.call17 rfl rfl (Split.nil _) (plays_spec _ p34 c34 us (by first | exact Vw.pick 0 rfl Vw.row | exact Vw.pick 1 rfl Vw.row | exact Vw.pick 2 rfl Vw.row | exact Vw.pick 3 rfl Vw.row | exact Vw.pick 4 rfl Vw.row | exact Vw.pick 5 rfl Vw.row | exact Vw.pick 6 rfl Vw.row | exact Vw.pick 7 rfl Vw.row | exact Vw.pick 8 rfl Vw.row | exact Vw.nil _ | exact Vw.empty _ _) (by omega) p c xs (by first | exact Vw.pick 0 rfl Vw.row | exact Vw.pick 1 rfl Vw.row | exact Vw.pick 2 rfl Vw.row | exact Vw.pick 3 rfl Vw.row | exact Vw.pick 4 rfl Vw.row | exact Vw.pick 5 rfl Vw.row | exact Vw.pick 6 rfl Vw.row | exact Vw.pick 7 rfl Vw.row | exact Vw.pick 8 rfl Vw.row | exact Vw.nil _ | exact Vw.empty _ _) (by omega) (hxs.subs (by repeat (first | exact SubH.nil _ | refine SubH.cons 0 rfl ?_ | refine SubH.cons 1 rfl ?_ | refine SubH.cons 2 rfl ?_ | refine SubH.cons 3 rfl ?_ | refine SubH.cons 4 rfl ?_ | refine SubH.cons 5 rfl ?_ | refine SubH.cons 6 rfl ?_ | refine SubH.cons 7 rfl ?_ | refine SubH.cons 8 rfl ?_ | refine SubH.cons 9 rfl ?_ | refine SubH.cons 10 rfl ?_ | refine SubH.cons 11 rfl ?_ | refine SubH.cons 12 rfl ?_ | refine SubH.cons 13 rfl ?_ | refine SubH.rown ?_))))) rfl ?_
        rintro _ H' ⟨_, ⟨rfl, rfl⟩, hH⟩
        simp only [List.cons_append, List.nil_append, List.eraseIdx_cons_zero, List.eraseIdx_cons_succ, List.set_cons_zero, List.set_cons_succ] at hH
        subst hH
        refine ops_ro' rfl (ro_move (v := .bool true) rfl) rfl ?_
        refine ops_eff' rfl (eff_call Try.call20 rfl rfl (by repeat (first | exact Split.nil _ | apply Split.cons 0 rfl | apply Split.cons 1 rfl | apply Split.cons 2 rfl | apply Split.cons 3 rfl | apply Split.cons 4 rfl | apply Split.cons 5 rfl | apply Split.cons 6 rfl | apply Split.cons 7 rfl | apply Split.cons 8 rfl | apply Split.cons 9 rfl | apply Split.cons 10 rfl | apply Split.cons 11 rfl)) (known11_spec V)) rfl ?_
        rintro _ H' ⟨_, ⟨rfl, rfl⟩, hH⟩
        simp only [List.cons_append, List.nil_append, List.eraseIdx_cons_zero, List.eraseIdx_cons_succ, List.set_cons_zero, List.set_cons_succ] at hH
        subst hH
        refine ops_ro' rfl (ro_pick rfl rfl) rfl ?_
        refine ops_ro' rfl (ro_assign rfl) rfl ?_
        refine ops_nil ?_
        refine Then_normal ?_
        refine wp_ret' ?_
        refine' doneS_ret (res1 rfl rfl) ?_ ?_
        rotate_left 1
        exact ⟨rfl, rfl⟩
        exact (SubH.cons 0 rfl (SubH.nil _))
    · replace hg19 := of_decide_eq_false hg19
      refine ops_skip' rfl rfl ?_
      refine ops_skip' rfl rfl ?_
      refine ops_ro' rfl (ro_pick rfl rfl) rfl ?_
      refine ops_nil ?_
      refine Then_normal ?_
      refine wp_condF rfl ?_
      refine wp_exit' ?_
      refine Then_exit ?_
      refine Then_exit ?_
      refine InBlock_here ?_
      refine Then_normal ?_
      refine wp_seq' ?_
      refine wp_region' ?_
      refine ops_ro' rfl (ro_move rfl) rfl ?_
      refine ops_eff' rfl (eff_call Try.call21 rfl rfl (by repeat (first | exact Split.nil _ | apply Split.cons 0 rfl | apply Split.cons 1 rfl | apply Split.cons 2 rfl | apply Split.cons 3 rfl | apply Split.cons 4 rfl | apply Split.cons 5 rfl | apply Split.cons 6 rfl | apply Split.cons 7 rfl | apply Split.cons 8 rfl | apply Split.cons 9 rfl | apply Split.cons 10 rfl | apply Split.cons 11 rfl)) (users_spec V q cq l hV hlq)) rfl ?_
      rintro _ H' ⟨_, ⟨_, ⟨p34, c34, rfl, rfl⟩, rfl⟩, hH⟩
      simp only [List.cons_append, List.nil_append, List.eraseIdx_cons_zero, List.eraseIdx_cons_succ, List.set_cons_zero, List.set_cons_succ] at hH
      subst hH
      have hus : (usr (l.take 5)).length ≤ 5 := by rw [usr, List.length_map, List.length_take]; omega
      generalize usr (l.take 5) = us at *
      refine ops_ro' rfl (ro_move rfl) rfl ?_
      refine ops_eff' rfl (eff_callM (Pre := []) Try.call17 rfl rfl (Split.nil _) (plays_spec _ p34 c34 us (by first | exact Vw.pick 0 rfl Vw.row | exact Vw.pick 1 rfl Vw.row | exact Vw.pick 2 rfl Vw.row | exact Vw.pick 3 rfl Vw.row | exact Vw.pick 4 rfl Vw.row | exact Vw.pick 5 rfl Vw.row | exact Vw.pick 6 rfl Vw.row | exact Vw.pick 7 rfl Vw.row | exact Vw.pick 8 rfl Vw.row | exact Vw.nil _ | exact Vw.empty _ _) (by omega) p c xs (by first | exact Vw.pick 0 rfl Vw.row | exact Vw.pick 1 rfl Vw.row | exact Vw.pick 2 rfl Vw.row | exact Vw.pick 3 rfl Vw.row | exact Vw.pick 4 rfl Vw.row | exact Vw.pick 5 rfl Vw.row | exact Vw.pick 6 rfl Vw.row | exact Vw.pick 7 rfl Vw.row | exact Vw.pick 8 rfl Vw.row | exact Vw.nil _ | exact Vw.empty _ _) (by omega) (hxs.subs (by repeat (first | exact SubH.nil _ | refine SubH.cons 0 rfl ?_ | refine SubH.cons 1 rfl ?_ | refine SubH.cons 2 rfl ?_ | refine SubH.cons 3 rfl ?_ | refine SubH.cons 4 rfl ?_ | refine SubH.cons 5 rfl ?_ | refine SubH.cons 6 rfl ?_ | refine SubH.cons 7 rfl ?_ | refine SubH.cons 8 rfl ?_ | refine SubH.cons 9 rfl ?_ | refine SubH.cons 10 rfl ?_ | refine SubH.cons 11 rfl ?_ | refine SubH.cons 12 rfl ?_ | refine SubH.cons 13 rfl ?_ | refine SubH.rown ?_))))) rfl ?_
      rintro _ H' ⟨_, ⟨rfl, rfl⟩, hH⟩
      simp only [List.cons_append, List.nil_append, List.eraseIdx_cons_zero, List.eraseIdx_cons_succ, List.set_cons_zero, List.set_cons_succ] at hH
      subst hH
      refine ops_ro' rfl (ro_move (v := .bool true) rfl) rfl ?_
      refine ops_eff' rfl (eff_call Try.call20 rfl rfl (by repeat (first | exact Split.nil _ | apply Split.cons 0 rfl | apply Split.cons 1 rfl | apply Split.cons 2 rfl | apply Split.cons 3 rfl | apply Split.cons 4 rfl | apply Split.cons 5 rfl | apply Split.cons 6 rfl | apply Split.cons 7 rfl | apply Split.cons 8 rfl | apply Split.cons 9 rfl | apply Split.cons 10 rfl | apply Split.cons 11 rfl)) (known11_spec V)) rfl ?_
      rintro _ H' ⟨_, ⟨rfl, rfl⟩, hH⟩
      simp only [List.cons_append, List.nil_append, List.eraseIdx_cons_zero, List.eraseIdx_cons_succ, List.set_cons_zero, List.set_cons_succ] at hH
      subst hH
      refine ops_ro' rfl (ro_pick rfl rfl) rfl ?_
      refine ops_ro' rfl (ro_assign rfl) rfl ?_
      refine ops_nil ?_
      refine Then_normal ?_
      refine wp_ret' ?_
      refine' doneS_ret (res1 rfl rfl) ?_ ?_
      rotate_left 1
      exact ⟨rfl, rfl⟩
      exact (SubH.cons 0 rfl (SubH.nil _))

end Go.Proofs.Ytigaolglnnjnmaa
