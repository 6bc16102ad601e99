/-
  Law 11: the program and the reference, side by side.
-/
import Derived.Test.YtigaolglnnjnmaaAuthM
import Derived.Test.YtigaolglnnjnmaaAuthI
import Derived.Test.YtigaolglnnjnmaaKBytes
namespace Go.Proofs.Ytigaolglnnjnmaa
open Go.Sx
set_option linter.unusedVariables false
set_option linter.unusedSimpArgs false
set_option maxRecDepth 100000
set_option maxHeartbeats 4000000

theorem gDo_tries (g : Gs) (us : List Us) (x : List UInt8) : (gDo g us x).1.tries ≤ g.tries + 1 := by
  have ht : (gTry g).1.tries ≤ g.tries + 1 := by unfold gTry; split <;> simp [gEnd]
  have he : ∀ n, (gEnd g n).1.tries ≤ g.tries + 1 := fun n => by simp [gEnd]
  cases x with
  | nil => simp [gDo]
  | cons y r =>
    rw [gDo_cons]
    split; simp
    split; simp
    split; simp
    split
    · unfold gAsk gAskE; split; exact he 2; split; exact he 7; simp
    split
    · unfold gLogin gLogE; split; exact he 2; split; simp; split; exact he 7; split; exact ht
      unfold gLog2; split; exact he 2; split; simp; exact ht
    · exact he 2
theorem kbytes_ans (v1 v2 : Value) (o : Option (List UInt8)) : Tri Try.prog 47 [v1, v2] [ansP v1 o, ansP v2 o] (fun v H' => v = .bool true ∧ H' = []) := by
  refine tri_ans fun K hK => ?_
  refine tri_sub (L := ansP v2 o :: K) (fun w F s => by
    rw [St_append, St_cons, St_nil, star_emp] at s
    rw [St_cons, star_comm (ansP v2 o)]; exact s) ?_
  refine tri_ans fun K2 hK2 => ?_
  refine tri_sub (L := [St (K2 ++ K)]) (fun w F s => by rw [St_cons, St_nil, star_emp]; exact s) ?_
  rcases hK with ⟨rfl, rfl, rfl⟩ | ⟨x, b, p, c, rfl, rfl, rfl⟩
  · rcases hK2 with ⟨_, rfl, rfl⟩ | ⟨x, b, p, c, h, _, _⟩
    · exact tri_weak (kbytes_spec _ [] [] none none 0 0 (Vw.nil _) (Vw.nil _) (fun x hx => (by cases hx)) (fun x hx => (by cases hx)) (by decide)) fun v H ⟨K, ⟨h1, _⟩, _⟩ => ⟨[], ⟨h1, rfl⟩, SubH.nil _⟩
    · cases h
  · rcases hK2 with ⟨h, _, _⟩ | ⟨x2, b2, p2, c2, h, rfl, rfl⟩
    · cases h
    · injection h with h; subst h
      refine tri_weak (kbytes_spec _ [⟨p, c, x⟩] [⟨p2, c2, x⟩] _ _ 1 1 (Vw.pick 2 rfl Vw.row) (Vw.pick 0 rfl Vw.row) (fun y hy => ?_) (fun y hy => ?_) (by simp)) fun v H ⟨K, ⟨h1, _⟩, _⟩ => ⟨[], ⟨h1.trans (by simp), rfl⟩, SubH.nil _⟩
      · rw [List.mem_singleton.1 hy]; exact Vw.pick 3 rfl Vw.row
      · rw [List.mem_singleton.1 hy]; exact Vw.pick 1 rfl Vw.row


/-- payloads that may be looked at -/
def Xs (V : HProp) (xs : List (Slv UInt8)) : Prop := ∀ x ∈ xs, Vw V x.v x.l.length (cel x.l) ∧ x.l.length ≤ x.c ∧ x.l.length ≤ 1000
theorem plays_spec (V : HProp) (q : Option Addr) (cq : Nat) (us : List Us) (hV : Vw V (.slice q us.length cq) us.length (flat Us.cs us)) (hul : us.length ≤ 1000) (qx : Option Addr) (cx : Nat) (xs : List (Slv UInt8)) (hVx : Vw V (.slice qx xs.length cx) xs.length (flat Sq.cs xs)) (hxl : xs.length ≤ 1000) (hX : Xs V xs) :
    Tri Try.prog 17 [.slice q us.length cq, .slice qx xs.length cx] [V] (fun v H' => ∃ K, (v = .bool true ∧ K = []) ∧ H' = K ++ [V]) := by
  refine tri_of_wpS Try.func17 rfl Try.ntmps17 (by simp) ?_
  refine wp_seq' ?_
  refine wp_region' ?_
  refine ops_ro' rfl (ro_assign rfl) rfl ?_
  refine ops_nil ?_
  refine Then_normal ?_
  refine wp_seq' ?_
  refine wp_region' ?_
  refine ops_ro' rfl (ro_move rfl) rfl ?_
  refine ops_eff' rfl (eff_callM (Pre := []) Try.call23 rfl rfl (Split.nil _) (auNew_K _ q cq us (by first | exact (Vw.pick 0 rfl hV) | exact (Vw.pick 1 rfl hV) | exact (Vw.pick 2 rfl hV) | exact (Vw.pick 3 rfl hV) | exact (Vw.pick 4 rfl hV) | exact (Vw.pick 5 rfl hV) | exact (Vw.pick 6 rfl hV) | exact (Vw.pick 7 rfl hV) | exact (Vw.pick 8 rfl hV) | exact Vw.pick 0 rfl Vw.row | exact Vw.pick 1 rfl Vw.row | exact Vw.pick 2 rfl Vw.row | exact Vw.pick 3 rfl Vw.row | exact Vw.pick 4 rfl Vw.row | exact Vw.pick 5 rfl Vw.row | exact Vw.pick 6 rfl Vw.row | exact Vw.pick 7 rfl Vw.row | exact Vw.pick 8 rfl Vw.row | exact Vw.nil _ | exact Vw.empty _ _) (by omega))) rfl ?_
  rintro _ H' ⟨_, ⟨bg, p, c, rfl, rfl⟩, hH⟩
  simp only [List.cons_append, List.nil_append, List.eraseIdx_cons_zero, List.eraseIdx_cons_succ, List.set_cons_zero, List.set_cons_succ] at hH
  subst hH
  refine ops_ro' rfl (ro_assign rfl) rfl ?_
  refine ops_nil ?_
  refine Then_normal ?_
  refine wp_seq' ?_
  refine wp_region' ?_
  refine ops_ro' rfl (ro_move rfl) rfl ?_
  refine ops_ro' rfl (ro_build rfl (bld_struct (cs := [.slice q us.length cq, .bool false, .bool false, .string (str []), .int .i64 0, .bool false]) st89 rfl)) rfl ?_
  refine ops_eff' rfl (eff_box rfl) rfl ?_
  rintro _ _ ⟨b16, rfl, rfl⟩
  refine ops_ro' rfl (ro_assign rfl) rfl ?_
  refine ops_nil ?_
  refine Then_normal ?_
  refine wp_seq' ?_
  refine wp_seq' ?_
  refine wp_region' ?_
  refine ops_ro' rfl (ro_move rfl) rfl ?_
  refine ops_ro' rfl (ro_ptrEqlNil Try.underlying46 rfl rfl rfl) rfl ?_
  refine ops_nil ?_
  refine Then_normal ?_
  refine wp_condF rfl ?_
  refine wp_skip' ?_
  refine Then_normal ?_
  refine wp_seq' ?_
  refine wp_seq' ?_
  refine wp_region' ?_
  refine ops_ro' rfl (ro_assign rfl) rfl ?_
  refine ops_nil ?_
  refine Then_normal ?_
  refine wp_block' ?_
  refine wp_loopK 6 (fun m Δ LL => ∃ (i : Nat) (g : Gs), (i + m = xs.length ∧ g.tries ≤ i) ∧ Δ = [(7, .int .i64 (i : Nat))] ∧ LL = [gt bg p us.length c g, gr b16 q us.length cq g, row 30 2 (.slice p us.length c) us.length (flat Us.cs us), V]) (m := xs.length) (Has.cons (k := 1) rfl (Has.cons (k := 5) rfl (Has.cons (k := 6) rfl (Has.nil _)))) (kept ⟨0, Gs.zero, ⟨by omega, Nat.le_refl _⟩, rfl, rfl⟩ (by repeat (first | exact Has.nil _ | refine Has.cons rfl ?_)) (by repeat (first | exact Has.nil _ | refine Has.cons rfl ?_)) (by repeat (first | exact SubH.nil _ | refine SubH.cons 0 rfl ?_ | refine SubH.cons 1 rfl ?_ | refine SubH.cons 2 rfl ?_ | refine SubH.cons 3 rfl ?_ | refine SubH.cons 4 rfl ?_ | refine SubH.cons 5 rfl ?_ | refine SubH.cons 6 rfl ?_ | refine SubH.cons 7 rfl ?_ | refine SubH.cons 8 rfl ?_ | refine SubH.cons 9 rfl ?_ | refine SubH.cons 10 rfl ?_ | refine SubH.cons 11 rfl ?_ | refine SubH.cons 12 rfl ?_ | refine SubH.cons 13 rfl ?_ | refine SubH.rown ?_))) ?_
  rintro m Δ LL ⟨i, g, ⟨hm, hgt⟩, rfl, rfl⟩
  simp only [List.cons_append, List.nil_append]
  refine wp_seq' ?_
  refine wp_seq' ?_
  refine wp_region' ?_
  refine ops_ro' rfl (ro_move rfl) rfl ?_
  refine ops_ro' rfl (ro_move rfl) rfl ?_
  refine ops_ro' rfl (ro_sliceLen Try.underlying36 rfl) rfl ?_
  refine ops_ro' rfl (ro_lss rfl rfl rfl) rfl ?_
  refine ops_nil ?_
  refine Then_normal ?_
  refine wp_cond' rfl (fun hc22 => ?_) (fun hc22 => ?_)
  · replace hc22 := of_decide_eq_true hc22
    refine wp_skip' ?_
    refine Then_normal ?_
    refine wp_seq' ?_
    refine wp_block' ?_
    refine wp_seq' ?_
    have hi : i < xs.length := by omega
    refine wp_know (fun w F s => vw_ptr (Vw.pick (H := [_, _, _, V]) 3 rfl hVx) s (by omega)) ?_
    rintro ⟨bx, ox, rfl⟩
    have hX1 := (hX xs[i] (List.getElem_mem hi)).2
    refine wp_region' ?_
    refine ops_ro' rfl (ro_move rfl) rfl ?_
    refine ops_ro' rfl (ro_move rfl) rfl ?_
    refine ops_ro' rfl (ro_move rfl) rfl ?_
    refine ops_ro' rfl (ro_indexSlice sl36 rfl rfl rfl (by omega)) rfl ?_
    refine ops_ro' rfl (ro_load sc32 rfl (Rd.pick 3 rfl (Rd.elem (j := 0) (vw_rdn hVx) Sq.len (List.getElem?_eq_getElem hi) rfl))) rfl ?_
    refine ops_eff' rfl (eff_callM (Pre := [_]) Try.call24 rfl rfl (by repeat (first | exact Split.nil _ | apply Split.cons 0 rfl | apply Split.cons 1 rfl | apply Split.cons 2 rfl | apply Split.cons 3 rfl | apply Split.cons 4 rfl | apply Split.cons 5 rfl | apply Split.cons 6 rfl | apply Split.cons 7 rfl | apply Split.cons 8 rfl | apply Split.cons 9 rfl | apply Split.cons 10 rfl | apply Split.cons 11 rfl)) (auDo_K _ bg p c g (by omega) us (by first | exact (Vw.pick 0 rfl hV) | exact (Vw.pick 1 rfl hV) | exact (Vw.pick 2 rfl hV) | exact (Vw.pick 3 rfl hV) | exact (Vw.pick 4 rfl hV) | exact (Vw.pick 5 rfl hV) | exact (Vw.pick 6 rfl hV) | exact (Vw.pick 7 rfl hV) | exact (Vw.pick 8 rfl hV) | exact Vw.pick 0 rfl Vw.row | exact Vw.pick 1 rfl Vw.row | exact Vw.pick 2 rfl Vw.row | exact Vw.pick 3 rfl Vw.row | exact Vw.pick 4 rfl Vw.row | exact Vw.pick 5 rfl Vw.row | exact Vw.pick 6 rfl Vw.row | exact Vw.pick 7 rfl Vw.row | exact Vw.pick 8 rfl Vw.row | exact Vw.nil _ | exact Vw.empty _ _) (by omega) xs[i].p xs[i].l xs[i].c (by first | exact Vw.pick 0 rfl (hX xs[i] (List.getElem_mem hi)).1 | exact Vw.pick 1 rfl (hX xs[i] (List.getElem_mem hi)).1 | exact Vw.pick 2 rfl (hX xs[i] (List.getElem_mem hi)).1 | exact Vw.pick 3 rfl (hX xs[i] (List.getElem_mem hi)).1 | exact Vw.pick 4 rfl (hX xs[i] (List.getElem_mem hi)).1 | exact Vw.pick 5 rfl (hX xs[i] (List.getElem_mem hi)).1) hX1.1 (by omega))) rfl ?_
    rintro _ H' ⟨_, rfl, hH⟩
    simp only [List.cons_append, List.nil_append, List.eraseIdx_cons_zero, List.eraseIdx_cons_succ, List.set_cons_zero, List.set_cons_succ] at hH
    subst hH
    refine ops_ro' rfl (ro_assign rfl) rfl ?_
    refine ops_nil ?_
    refine Then_normal ?_
    refine wp_seq' ?_
    refine wp_region' ?_
    refine ops_ro' rfl (ro_move rfl) rfl ?_
    refine ops_ro' rfl (ro_move rfl) rfl ?_
    refine ops_ro' rfl (ro_move rfl) rfl ?_
    refine ops_ro' rfl (ro_indexSlice sl36 rfl rfl rfl (by omega)) rfl ?_
    refine ops_ro' rfl (ro_load sc32 rfl (Rd.pick 4 rfl (Rd.elem (j := 0) (vw_rdn hVx) Sq.len (List.getElem?_eq_getElem hi) rfl))) rfl ?_
    refine ops_eff' rfl (eff_callM (Pre := [_]) Try.call46 rfl rfl (by repeat (first | exact Split.nil _ | apply Split.cons 0 rfl | apply Split.cons 1 rfl | apply Split.cons 2 rfl | apply Split.cons 3 rfl | apply Split.cons 4 rfl | apply Split.cons 5 rfl | apply Split.cons 6 rfl | apply Split.cons 7 rfl | apply Split.cons 8 rfl | apply Split.cons 9 rfl | apply Split.cons 10 rfl | apply Split.cons 11 rfl)) (rqDo_K _ b16 q cq g (by omega) us (by first | exact Vw.pick 0 rfl hV | exact Vw.pick 1 rfl hV | exact Vw.pick 2 rfl hV | exact Vw.pick 3 rfl hV | exact Vw.pick 4 rfl hV | exact Vw.pick 5 rfl hV) (by omega) xs[i].p xs[i].l xs[i].c (by first | exact Vw.pick 0 rfl (hX xs[i] (List.getElem_mem hi)).1 | exact Vw.pick 1 rfl (hX xs[i] (List.getElem_mem hi)).1 | exact Vw.pick 2 rfl (hX xs[i] (List.getElem_mem hi)).1 | exact Vw.pick 3 rfl (hX xs[i] (List.getElem_mem hi)).1 | exact Vw.pick 4 rfl (hX xs[i] (List.getElem_mem hi)).1 | exact Vw.pick 5 rfl (hX xs[i] (List.getElem_mem hi)).1) hX1.1 (by omega))) rfl ?_
    rintro _ H' ⟨_, rfl, hH⟩
    simp only [List.cons_append, List.nil_append, List.eraseIdx_cons_zero, List.eraseIdx_cons_succ, List.set_cons_zero, List.set_cons_succ] at hH
    subst hH
    have htr := gDo_tries g us xs[i].l
    generalize gDo g us xs[i].l = t at *
    obtain ⟨g2, o⟩ := t
    simp only at *
    refine ops_ro' rfl (ro_assign rfl) rfl ?_
    refine ops_nil ?_
    refine Then_normal ?_
    refine wp_seq' ?_
    refine wp_region' ?_
    refine ops_ro' rfl (ro_move rfl) rfl ?_
    refine ops_eff' rfl (eff_call Try.call26 rfl rfl (by repeat (first | exact Split.nil _ | apply Split.cons 0 rfl | apply Split.cons 1 rfl | apply Split.cons 2 rfl | apply Split.cons 3 rfl | apply Split.cons 4 rfl | apply Split.cons 5 rfl | apply Split.cons 6 rfl | apply Split.cons 7 rfl | apply Split.cons 8 rfl | apply Split.cons 9 rfl | apply Split.cons 10 rfl | apply Split.cons 11 rfl)) (auUser_spec bg p us.length c g2)) rfl ?_
    rintro _ H' ⟨_, ⟨rfl, rfl⟩, hH⟩
    simp only [List.cons_append, List.nil_append, List.eraseIdx_cons_zero, List.eraseIdx_cons_succ, List.set_cons_zero, List.set_cons_succ] at hH
    subst hH
    refine ops_ro' rfl (ro_move rfl) rfl ?_
    refine ops_ro' rfl (ro_extract rfl rfl) rfl ?_
    refine ops_ro' rfl (ro_extract rfl rfl) rfl ?_
    refine ops_ro' rfl (ro_assign rfl) rfl ?_
    refine ops_ro' rfl (ro_assign rfl) rfl ?_
    refine ops_nil ?_
    refine Then_normal ?_
    refine wp_seq' ?_
    refine wp_draw 29 (by kernel_rfl) (Split.cons 2 rfl (Split.nil _)) ?_
    refine any_ro' (i := 0) (by kernel_rfl) rfl rfl (ro_move rfl) rfl (fun _ _ _ h => h) ?_
    refine any_ro' (i := 1) (by kernel_rfl) rfl rfl (ro_move rfl) rfl (fun _ _ _ h => h) ?_
    refine any_eff' (i := 2) (by kernel_rfl) rfl rfl (eff_call Try.call47 rfl rfl (by repeat (first | exact Split.nil _ | apply Split.cons 0 rfl | apply Split.cons 1 rfl | apply Split.cons 2 rfl | apply Split.cons 3 rfl | apply Split.cons 4 rfl | apply Split.cons 5 rfl | apply Split.cons 6 rfl | apply Split.cons 7 rfl | apply Split.cons 8 rfl | apply Split.cons 9 rfl | apply Split.cons 10 rfl | apply Split.cons 11 rfl)) (kbytes_ans _ _ o)) rfl ?_
    rintro _ H' ⟨_, ⟨rfl, rfl⟩, hH⟩
    simp only [List.cons_append, List.nil_append, List.eraseIdx_cons_zero, List.eraseIdx_cons_succ, List.set_cons_zero, List.set_cons_succ] at hH
    subst hH
    refine any_ro' (i := 3) (by kernel_rfl) rfl rfl (ro_not rfl rfl) rfl (fun _ _ _ h => h) ?_
    refine any_ro' (i := 4) (by kernel_rfl) rfl rfl (ro_move (v := .bool false) rfl) rfl (fun _ _ _ h => h) ?_
    refine any_ro' (i := 5) (by kernel_rfl) rfl rfl (ro_move rfl) rfl (fun _ _ _ h => h) ?_
    refine any_ro' (i := 6) (by kernel_rfl) rfl rfl (ro_move rfl) rfl (fun _ _ _ h => h) ?_
    refine any_ro' (i := 7) (by kernel_rfl) rfl rfl (ro_nilCheck rfl) rfl (fun _ _ _ h => h) ?_
    refine any_ro' (i := 8) (by kernel_rfl) rfl rfl (ro_fieldAddr fa89_3 rfl) rfl (fun _ _ _ h => h) ?_
    refine any_ro' (i := 9) (by kernel_rfl) rfl rfl (ro_load sc9 rfl (Rd.pick 0 rfl (Rd.own rfl))) rfl (fun _ _ _ h => h) ?_
    refine any_ro' (i := 10) (by kernel_rfl) rfl rfl (ro_neqS rfl rfl (decide_eq_false (fun h => h rfl))) rfl (fun _ _ _ h => h) ?_
    refine any_ro' (i := 11) (by kernel_rfl) rfl rfl (ro_pick rfl rfl) rfl (fun _ _ _ h => h) ?_
    refine any_ro' (i := 12) (by kernel_rfl) rfl rfl (ro_move (v := .bool false) rfl) rfl (fun _ _ _ h => h) ?_
    refine any_ro' (i := 13) (by kernel_rfl) rfl rfl (ro_move rfl) rfl (fun _ _ _ h => h) ?_
    refine any_ro' (i := 14) (by kernel_rfl) rfl rfl (ro_move rfl) rfl (fun _ _ _ h => h) ?_
    refine any_ro' (i := 15) (by kernel_rfl) rfl rfl (ro_nilCheck rfl) rfl (fun _ _ _ h => h) ?_
    refine any_ro' (i := 16) (by kernel_rfl) rfl rfl (ro_fieldAddr fa89_2 rfl) rfl (fun _ _ _ h => h) ?_
    refine any_ro' (i := 17) (by kernel_rfl) rfl rfl (ro_load sc4 rfl (Rd.pick 0 rfl (Rd.own rfl))) rfl (fun _ _ _ h => h) ?_
    refine any_ro' (i := 18) (by kernel_rfl) rfl rfl (ro_neq_bool Try.underlying4 rfl rfl (c := false) (by simp)) rfl (fun _ _ _ h => h) ?_
    refine any_ro' (i := 19) (by kernel_rfl) rfl rfl (ro_pick rfl rfl) rfl (fun _ _ _ h => h) ?_
    refine any_ro' (i := 20) (by kernel_rfl) rfl rfl (ro_move (v := .bool false) rfl) rfl (fun _ _ _ h => h) ?_
    refine any_ro' (i := 21) (by kernel_rfl) rfl rfl (ro_move rfl) rfl (fun _ _ _ h => h) ?_
    refine any_ro' (i := 23) (by kernel_rfl) rfl rfl (ro_move rfl) rfl (fun _ _ _ h => h) ?_
    refine any_ro' (i := 24) (by kernel_rfl) rfl rfl (ro_nilCheck rfl) rfl (fun _ _ _ h => h) ?_
    refine any_ro' (i := 25) (by kernel_rfl) rfl rfl (ro_fieldAddr fa89_5 rfl) rfl (fun _ _ _ h => h) ?_
    refine any_ro' (i := 26) (by kernel_rfl) rfl rfl (ro_load sc4 rfl (Rd.pick 0 rfl (Rd.own rfl))) rfl (fun _ _ _ h => h) ?_
    refine any_eff' (i := 22) (by kernel_rfl) rfl rfl (eff_call Try.call27 rfl rfl (by repeat (first | exact Split.nil _ | apply Split.cons 0 rfl | apply Split.cons 1 rfl | apply Split.cons 2 rfl | apply Split.cons 3 rfl | apply Split.cons 4 rfl | apply Split.cons 5 rfl | apply Split.cons 6 rfl | apply Split.cons 7 rfl | apply Split.cons 8 rfl | apply Split.cons 9 rfl | apply Split.cons 10 rfl | apply Split.cons 11 rfl)) (auDead_spec bg p us.length c g2)) rfl ?_
    rintro _ H' ⟨_, ⟨rfl, rfl⟩, hH⟩
    simp only [List.cons_append, List.nil_append, List.eraseIdx_cons_zero, List.eraseIdx_cons_succ, List.set_cons_zero, List.set_cons_succ] at hH
    subst hH
    refine any_ro' (i := 27) (by kernel_rfl) rfl rfl (ro_neq_bool Try.underlying4 rfl rfl (c := false) (by simp)) rfl (fun _ _ _ h => h) ?_
    refine any_ro' (i := 28) (by kernel_rfl) rfl rfl (ro_pick rfl rfl) rfl (fun _ _ _ h => h) ?_
    refine any_done (by kernel_rfl) ?_
    refine Then_normal ?_
    refine wp_condF rfl ?_
    refine wp_skip' ?_
    refine InBlock_normal ?_
    refine Then_normal ?_
    refine wp_region' ?_
    refine ops_ro' rfl (ro_move rfl) rfl ?_
    refine ops_ro' rfl (ro_add rfl rfl (wrap_inc (by omega))) rfl ?_
    refine ops_ro' rfl (ro_assign rfl) rfl ?_
    refine ops_nil ?_
    refine Then_normal ?_
    refine back (m - 1) (by omega) (kept ⟨i + 1, g2, ⟨by omega, by omega⟩, rfl, rfl⟩ ?_ ?_ ?_)
    · exact (by repeat (first | exact Has.nil _ | refine Has.cons rfl ?_))
    · exact (by repeat (first | exact Has.nil _ | refine Has.cons rfl ?_))
    · exact (SubH.cons 1 rfl (SubH.cons 0 rfl (SubH.cons 0 rfl (SubH.cons 0 rfl (SubH.nil _)))))
  · replace hc22 := of_decide_eq_false hc22
    refine wp_exit' ?_
    refine Then_exit ?_
    refine Then_exit ?_
    refine InBlock_here ?_
    refine Then_normal ?_
    refine wp_seq' ?_
    refine wp_region' ?_
    refine ops_ro' rfl (ro_assign rfl) rfl ?_
    refine ops_nil ?_
    refine Then_normal ?_
    refine wp_ret' ?_
    refine' doneS_ret (res1 rfl rfl) ?_ ?_
    rotate_left 1
    exact ⟨_, ⟨rfl, rfl⟩, rfl⟩
    exact (SubH.cons 3 rfl (SubH.nil _))

end Go.Proofs.Ytigaolglnnjnmaa
