/-
  Done of the reference; the walk of SessionPlays.
-/
import Derived.Test.YtbiohhfibkolgaaRef21
namespace Go.Proofs.Ytbiohhfibkolgaa
open Go.Sx
set_option linter.unusedVariables false
set_option linter.unusedSimpArgs false
set_option maxRecDepth 100000
set_option maxHeartbeats 4000000

theorem rdone_spec (V : HProp) (bw : Nat) (X : List (Int × Rc)) (s : List Int) (rs : List Rp) (h : Wt V X s rs) (client seq : Int) (r : Rp) (hr : r.In V) :
    Tri Try.prog 49 [.pointer (some ⟨bw, 0, none⟩), .int .i64 client, .int .i64 seq, r.v] [wtab bw s rs] (fun v H' => ∃ d, (∃ X' s' rs', doneOf X client seq r.c = (d, X') ∧ Wt V X' s' rs' ∧ H' = [wtab bw s' rs']) ∧ v = .int .i64 d) := by
  refine tri_of_wpS Try.func49 rfl Try.ntmps49 (by simp) ?_
  refine wp_seq' ?_
  refine wp_region' ?_
  refine ops_eff' rfl (eff_box rfl) rfl ?_
  rintro _ _ ⟨b7, rfl, rfl⟩
  refine ops_ro' rfl (ro_assign rfl) rfl ?_
  refine ops_nil ?_
  refine Then_normal ?_
  refine wp_seq' ?_
  refine wp_region' ?_
  refine ops_ro' rfl (ro_move rfl) rfl ?_
  refine ops_ro' rfl (ro_move rfl) rfl ?_
  refine ops_ro' rfl (ro_move rfl) rfl ?_
  refine ops_eff' rfl (eff_call Try.call48 rfl rfl (by repeat (first | exact Split.nil _ | apply Split.cons 0 rfl | apply Split.cons 1 rfl | apply Split.cons 2 rfl | apply Split.cons 3 rfl | apply Split.cons 4 rfl | apply Split.cons 5 rfl | apply Split.cons 6 rfl | apply Split.cons 7 rfl | apply Split.cons 8 rfl | apply Split.cons 9 rfl | apply Split.cons 10 rfl | apply Split.cons 11 rfl)) (rask_spec V bw X s rs h client seq)) rfl ?_
  rintro _ H' ⟨_, ⟨_, ⟨how, r0, rfl, hT, hin0, rfl⟩, rfl⟩, hH⟩
  simp only [List.cons_append, List.nil_append, List.eraseIdx_cons_zero, List.eraseIdx_cons_succ, List.set_cons_zero, List.set_cons_succ] at hH
  subst hH
  refine ops_ro' rfl (ro_move rfl) rfl ?_
  refine ops_ro' rfl (ro_extract rfl rfl) rfl ?_
  refine ops_ro' rfl (ro_extract rfl rfl) rfl ?_
  refine ops_eff' rfl (eff_alloc z32) rfl ?_
  rintro _ _ ⟨b10, rfl, rfl⟩
  refine ops_ro' rfl (ro_assign rfl) rfl ?_
  refine ops_eff0 rfl (eff_storeA 0 ag32 rfl rfl rfl rfl rfl (Nat.le_of_ble_eq_true rfl) (warm_zero _)) rfl ?_
  rintro _ _ rfl
  refine ops_nil ?_
  refine Then_normal ?_
  refine wp_seq' ?_
  refine wp_seq' ?_
  refine wp_region' ?_
  refine ops_ro' rfl (ro_move rfl) rfl ?_
  refine ops_ro' rfl (ro_neq rfl rfl rfl) rfl ?_
  refine ops_nil ?_
  refine Then_normal ?_
  refine wp_cond' rfl (fun hc19 => ?_) (fun hc19 => ?_)
  · replace hc19 := of_decide_eq_true hc19
    refine wp_seq' ?_
    refine wp_region' ?_
    refine ops_ro' rfl (ro_assign rfl) rfl ?_
    refine ops_nil ?_
    refine Then_normal ?_
    refine wp_ret' ?_
    refine Then_ret ?_
    refine' doneS_ret (res1 rfl rfl) ?_ ?_
    rotate_left 1
    exact ⟨_, ⟨X, s, rs, by rw [doneOf, if_neg (by rw [← hT]; exact hc19)], h, rfl⟩, rfl⟩
    exact (SubH.cons 1 rfl (SubH.nil _))
  · replace hc19 := of_decide_eq_false hc19
    have h1 : (askOf X client seq).1 = 1 := by rw [← hT]; exact Classical.byContradiction fun hh => by omega
    obtain ⟨c, rfl, hc, hs1, hs2⟩ := askOf_one h1
    refine wp_skip' ?_
    refine Then_normal ?_
    refine wp_seq' ?_
    refine wp_region' ?_
    refine ops_ro' rfl (ro_move rfl) rfl ?_
    refine ops_ro' rfl (ro_move rfl) rfl ?_
    refine ops_ro' rfl (ro_move rfl) rfl ?_
    refine ops_ro' rfl (ro_nilCheck rfl) rfl ?_
    refine ops_ro' rfl (ro_fieldAddr fa88_0 rfl) rfl ?_
    refine ops_ro' rfl (ro_indexArr Try.underlying85 (fun w => Try.sizeOf3 w) rfl rfl rfl (by omega)) rfl ?_
    refine ops_eff0 rfl (eff_store 1 sc3 rfl rfl rfl rfl (by simp [wcs, h.ls]; omega) (warm_zero _)) rfl ?_
    rintro _ _ rfl
    simp only [List.set_cons_zero, List.set_cons_succ]
    rw [wcs_set h.ls hc]
    refine ops_nil ?_
    refine Then_normal ?_
    refine wp_seq' ?_
    refine wp_draw 6 (by kernel_rfl) (Split.cons 2 rfl (Split.nil _)) ?_
    refine any_ro' (i := 0) (by kernel_rfl) rfl rfl (ro_move rfl) rfl (fun _ _ _ h => h) ?_
    refine any_ro' (i := 1) (by kernel_rfl) rfl rfl (ro_move rfl) rfl (fun _ _ _ h => h) ?_
    refine any_ro' (i := 2) (by kernel_rfl) rfl rfl (ro_loadA ag32 rfl (RdN.of_pick 0 rfl (show RdN (own b7 (.cells r.cs.toArray 32 (0, 0))) _ _ r.cs from rdn_all)) rfl) rfl (fun _ _ _ h => h) ?_
    refine any_ro' (i := 3) (by kernel_rfl) rfl rfl (ro_nilCheck rfl) rfl (fun _ _ _ h => h) ?_
    refine any_ro' (i := 4) (by kernel_rfl) rfl rfl (ro_fieldAddr fa88_1 rfl) rfl (fun _ _ _ h => h) ?_
    refine any_ro' (i := 5) (by kernel_rfl) rfl rfl (ro_indexArr Try.underlying86 (fun w => Try.sizeOf32 w) rfl rfl rfl (by omega)) rfl (fun _ _ _ h => h) ?_
    refine any_unlock (m' := 7) (L' := []) (by kernel_rfl) unlock ?_
    simp only [List.cons_append, List.nil_append, List.append_nil]
    refine any_eff0 (i := 6) (by kernel_rfl) rfl rfl (eff_storeA 2 ag32 rfl rfl rfl rfl rfl (by simp [wcs, h.ls, flat_len Rp.len', h.lr, Rp.cs]; omega) (warm_zero _)) rfl ?_
    rintro _ _ rfl
    simp only [List.set_cons_zero, List.set_cons_succ]
    rw [wcs_over (by simpa using h.ls) h.lr hc]
    refine any_doneH (by kernel_rfl) ?_
    refine Then_normal ?_
    refine wp_seq' ?_
    refine wp_region' ?_
    refine ops_ro' rfl (ro_assign rfl) rfl ?_
    refine ops_nil ?_
    refine Then_normal ?_
    refine wp_ret' ?_
    refine' doneS_ret (res1 rfl rfl) ?_ ?_
    rotate_left 1
    exact ⟨_, ⟨_, _, _, by rw [doneOf, if_pos h1, Int.toNat_natCast], h.set c seq r hr, rfl⟩, rfl⟩
    exact (SubH.cons 2 rfl (SubH.nil _))
theorem ask_of (bt : Nat) (E : List En) (hT : Tbl E) (client seq : Int) :
    Tri Try.prog 15 [.pointer (some ⟨bt, 0, none⟩), .int .i64 client, .int .i64 seq] [tab bt E, owns E] (fun v H' => ∃ (how : Int) (r : Rp), v = .tuple #[.int .i64 how, r.v] ∧ (how, r.c) = askOf (E.map En.sc) client seq ∧ r.c.ns.length ≤ 140737488355328 ∧ H' = [r.rd, r.rn, tab bt E, owns E]) := by
  refine tri_post (ask_spec bt E hT.len hT.short client seq) ?_
  rintro v H ⟨how, r, rfl, hto, rfl⟩
  refine ⟨how, r, rfl, told_of hT.len hto, ?_, rfl⟩
  rcases hto with ⟨_, rfl, _⟩ | ⟨c, e, _, hc, ⟨_, rfl, _⟩ | ⟨_, h0, _⟩ | ⟨_, rfl, _⟩⟩
  · decide
  · decide
  · rw [h0]; have := (hT.sm e (List.mem_of_getElem? hc)).1.n; omega
  · decide
theorem done_of (bt : Nat) (E : List En) (hT : Tbl E) (client seq : Int) (r : Rp) (W : HProp) (hV : r.In W) (hs : r.c.Sm) :
    Tri Try.prog 16 [.pointer (some ⟨bt, 0, none⟩), .int .i64 client, .int .i64 seq, r.v] [tab bt E, owns E, W] (fun v H' => ∃ K, (∃ d E', doneOf (E.map En.sc) client seq r.c = (d, E'.map En.sc) ∧ Tbl E' ∧ v = .int .i64 d ∧ K = [tab bt E', owns E']) ∧ H' = K ++ [W]) := by
  refine tri_weak (done_spec' bt E hT.len hT.short client seq r W hV (by have := hs.d; omega) (by have := hs.n; omega)) ?_
  rintro v H ⟨K, ⟨how, r0, hto, h⟩, rfl⟩
  have h1 := told_of hT.len hto
  rcases h with ⟨hn, rfl, rfl⟩ | ⟨c, r', rfl, rfl, hc16, hr', rfl, rfl⟩
  · exact ⟨_, ⟨_, ⟨1, E, by rw [doneOf, if_neg (by rw [← h1]; exact hn)], hT, rfl, rfl⟩, rfl⟩, SubH.refl _⟩
  · have hq := told_seq hto rfl
    refine ⟨_, ⟨_, ⟨0, E.set c ⟨seq, r'⟩, ?_, hT.set c (by show r'.c.Sm; rw [hr']; exact hs) hq.1 hq.2, rfl, rfl⟩, rfl⟩, SubH.cons 1 rfl (SubH.cons 0 rfl (SubH.cons 0 rfl (SubH.nil _)))⟩
    rw [doneOf, if_pos (by rw [← h1]), Int.toNat_natCast, List.map_set, ← hr']; rfl


theorem splays_run (V : HProp) (q : Option Addr) (cq : Nat) (az : List Aq) (hAV : Vw V (.slice q az.length cq) az.length (flat Aq.cs az)) (has : ∀ a ∈ az, a.Ok V) :
    Tri Try.prog 12 [.slice q az.length cq] [V] (fun v H' => v = .bool true ∧ H' = [V]) := by
  refine tri_of_wpS Try.func12 rfl Try.ntmps12 (by simp) ?_
  refine wp_seq' ?_
  refine wp_region' ?_
  refine ops_ro' rfl (ro_assign rfl) rfl ?_
  refine ops_nil ?_
  refine Then_normal ?_
  refine wp_seq' ?_
  refine wp_region' ?_
  refine ops_eff' rfl (eff_call Try.call14 rfl rfl (by repeat (first | exact Split.nil _ | apply Split.cons 0 rfl | apply Split.cons 1 rfl | apply Split.cons 2 rfl | apply Split.cons 3 rfl | apply Split.cons 4 rfl | apply Split.cons 5 rfl | apply Split.cons 6 rfl | apply Split.cons 7 rfl | apply Split.cons 8 rfl | apply Split.cons 9 rfl | apply Split.cons 10 rfl | apply Split.cons 11 rfl)) (tnew_spec)) rfl ?_
  rintro _ H' ⟨_, ⟨bt, rfl, rfl⟩, hH⟩
  simp only [List.cons_append, List.nil_append, List.eraseIdx_cons_zero, List.eraseIdx_cons_succ, List.set_cons_zero, List.set_cons_succ] at hH
  subst hH
  refine ops_ro' rfl (ro_assign rfl) rfl ?_
  refine ops_nil ?_
  refine Then_normal ?_
  refine wp_seq' ?_
  refine wp_region' ?_
  refine ops_ro' rfl (ro_build rfl (bld_struct (cs := wcs (List.replicate 16 0) (List.replicate 16 Rp.zero)) st_wtab rfl)) rfl ?_
  refine ops_eff' rfl (eff_box rfl) rfl ?_
  rintro _ _ ⟨b16, rfl, rfl⟩
  refine ops_ro' rfl (ro_assign rfl) rfl ?_
  refine ops_nil ?_
  refine Then_normal ?_
  refine wp_seq' ?_
  refine wp_seq' ?_
  refine wp_region' ?_
  refine ops_ro' rfl (ro_move rfl) rfl ?_
  refine ops_ro' rfl (ro_ptrEqlNil Try.underlying23 rfl rfl rfl) rfl ?_
  refine ops_nil ?_
  refine Then_normal ?_
  refine wp_condF rfl ?_
  refine wp_skip' ?_
  refine Then_normal ?_
  refine wp_seq' ?_
  refine wp_seq' ?_
  refine wp_region' ?_
  refine ops_ro' rfl (ro_assign rfl) rfl ?_
  refine ops_nil ?_
  refine Then_normal ?_
  refine wp_block' ?_
  refine wp_loopK 6 (fun m Δ L => ∃ (i : Nat) (bt : Nat) (E : List En) (s : List Int) (rs : List Rp), (i + m = az.length ∧ i ≤ 100 ∧ Tbl E ∧ Wt V (E.map En.sc) s rs) ∧ Δ = [(3, .pointer (some ⟨bt, 0, none⟩)), (5, .int .i64 (i : Nat))] ∧ L = [tab bt E, owns E, wtab b16 s rs, V]) (m := az.length) (Has.cons (k := 0) rfl (Has.cons (k := 4) rfl (Has.nil _))) (kept ⟨0, bt, (List.replicate 16 En.zero), _, _, ⟨by omega, by omega, Tbl.zero, wt_zero V⟩, rfl, rfl⟩ (by repeat (first | exact Has.nil _ | refine Has.cons rfl ?_)) (by repeat (first | exact Has.nil _ | refine Has.cons rfl ?_)) (by repeat (first | exact SubH.nil _ | refine SubH.cons 0 rfl ?_ | refine SubH.cons 1 rfl ?_ | refine SubH.cons 2 rfl ?_ | refine SubH.cons 3 rfl ?_ | refine SubH.cons 4 rfl ?_ | refine SubH.cons 5 rfl ?_ | refine SubH.cons 6 rfl ?_ | refine SubH.cons 7 rfl ?_ | refine SubH.cons 8 rfl ?_ | refine SubH.cons 9 rfl ?_ | refine SubH.cons 10 rfl ?_ | refine SubH.cons 11 rfl ?_ | refine SubH.cons 12 rfl ?_ | refine SubH.cons 13 rfl ?_ | refine SubH.rown ?_))) ?_
  rintro m Δ L ⟨i, bt, E, s, rs, ⟨hm, hi10, hT, hW⟩, rfl, rfl⟩
  simp only [List.cons_append, List.nil_append]
  refine wp_seq' ?_
  refine wp_seq' ?_
  refine wp_region' ?_
  refine ops_ro' rfl (ro_move rfl) rfl ?_
  refine ops_ro' rfl (ro_move rfl) rfl ?_
  refine ops_ro' rfl (ro_sliceLen Try.underlying41 rfl) rfl ?_
  refine ops_ro' rfl (ro_lss rfl rfl rfl) rfl ?_
  refine ops_split rfl rfl rfl (fun hg23 => ?_) (fun hg23 => ?_)
  · replace hg23 := of_decide_eq_true hg23
    have hi : i < az.length := by omega
    refine ops_know (fun w F s => vw_ptr (Vw.pick (H := [_, _, _, V]) 3 rfl hAV) s (by omega)) ?_
    rintro ⟨bb, o, rfl⟩
    have hok := has _ (List.getElem_mem hi)
    refine ops_ro' rfl (ro_move rfl) rfl ?_
    refine ops_ro' rfl (ro_lss rfl rfl rfl) rfl ?_
    refine ops_ro' rfl (ro_pick rfl rfl) rfl ?_
    refine ops_nil ?_
    refine Then_normal ?_
    refine wp_cond' rfl (fun hc26 => ?_) (fun hc26 => ?_)
    · replace hc26 := of_decide_eq_true hc26
      refine wp_skip' ?_
      refine Then_normal ?_
      refine wp_seq' ?_
      refine wp_block' ?_
      refine wp_seq' ?_
      refine wp_region' ?_
      refine ops_ro' rfl (ro_move rfl) rfl ?_
      refine ops_ro' rfl (ro_move rfl) rfl ?_
      refine ops_ro' rfl (ro_indexSlice sl41 rfl rfl rfl (by omega)) rfl ?_
      refine ops_ro' rfl (ro_loadA ag44 rfl (RdN.of_pick 3 rfl ((RdN.elem (vw_rdn hAV) Aq.len (List.getElem?_eq_getElem hi)))) rfl) rfl ?_
      refine ops_eff' rfl (eff_alloc z44) rfl ?_
      rintro _ _ ⟨b6, rfl, rfl⟩
      refine ops_eff0 rfl (eff_storeA 0 ag44 rfl rfl rfl rfl rfl (Nat.le_of_ble_eq_true rfl) (warm_zero _)) rfl ?_
      rintro _ _ rfl
      refine ops_nil ?_
      refine Then_normal ?_
      refine wp_seq' ?_
      refine wp_region' ?_
      refine ops_ro' rfl (ro_fieldAddr fa44_3 rfl) rfl ?_
      refine ops_ro' rfl (ro_loadA ag32 rfl (RdN.of_pick 0 rfl ((show RdN _ _ _ ((Aq.cs az[i]).drop 3) from (rdn_all (cs := Aq.cs az[i])).sub (k := 3) fun j u hj => by rwa [List.getElem?_drop] at hj))) rfl) rfl ?_
      refine ops_eff' rfl (eff_call Try.call20 rfl rfl (by repeat (first | exact Split.nil _ | apply Split.cons 0 rfl | apply Split.cons 1 rfl | apply Split.cons 2 rfl | apply Split.cons 3 rfl | apply Split.cons 4 rfl | apply Split.cons 5 rfl | apply Split.cons 6 rfl | apply Split.cons 7 rfl | apply Split.cons 8 rfl | apply Split.cons 9 rfl | apply Split.cons 10 rfl | apply Split.cons 11 rfl)) (short_spec V az[i].r hok.r.vw hok.r.cap hok.r.nl)) rfl ?_
      rintro _ H' ⟨_, ⟨_, ⟨r1, hr1, hc1, hcap1, rfl, rfl⟩, rfl⟩, hH⟩
      simp only [List.cons_append, List.nil_append, List.eraseIdx_cons_zero, List.eraseIdx_cons_succ, List.set_cons_zero, List.set_cons_succ] at hH
      subst hH
      have hsm : r1.c.Sm := by rw [hc1]; exact hok.r.short_sm
      refine ops_ro' rfl (ro_fieldAddr fa44_3 rfl) rfl ?_
      refine ops_eff0 rfl (eff_storeA 1 ag32 rfl rfl rfl rfl rfl (Nat.le_of_ble_eq_true rfl) (warm_zero _)) rfl ?_
      rintro _ _ rfl
      refine ops_nil ?_
      refine Then_normal ?_
      refine wp_cutK 1023 (fun Δ L => ∃ (bt : Nat) (E : List En) (s : List Int) (rs : List Rp), (Tbl E ∧ Wt V (E.map En.sc) s rs) ∧ Δ = [(3, .pointer (some ⟨bt, 0, none⟩))] ∧ L = [tab bt E, owns E, wtab b16 s rs, V]) (Has.cons (k := 0) rfl (Has.cons (k := 4) rfl (Has.cons (k := 5) rfl (Has.nil _)))) ?_ ?_
      · refine wp_seq' ?_
        refine wp_sub' (L := [own b6 (.cells (Aq.cs ⟨az[i].kind, az[i].client, az[i].seq, r1⟩).toArray 44 (0, 0)), tab bt E, owns E, wtab b16 s rs, V]) (by repeat (first | exact SubH.nil _ | refine SubH.cons 0 rfl ?_ | refine SubH.cons 1 rfl ?_ | refine SubH.cons 2 rfl ?_ | refine SubH.cons 3 rfl ?_ | refine SubH.cons 4 rfl ?_ | refine SubH.cons 5 rfl ?_ | refine SubH.cons 6 rfl ?_ | refine SubH.cons 7 rfl ?_ | refine SubH.cons 8 rfl ?_ | refine SubH.cons 9 rfl ?_ | refine SubH.cons 10 rfl ?_ | refine SubH.cons 11 rfl ?_ | refine SubH.cons 12 rfl ?_ | refine SubH.cons 13 rfl ?_ | refine SubH.rown ?_)) ?_
        refine wp_region' ?_
        refine ops_ro' rfl (ro_fieldAddr fa44_0 rfl) rfl ?_
        refine ops_ro' rfl (ro_load sc3 rfl (Rd.pick 0 rfl (Rd.own rfl))) rfl ?_
        refine ops_nil ?_
        refine Then_normal ?_
        refine wp_block' ?_
        refine wp_seq' ?_
        refine wp_region' ?_
        refine ops_ro' rfl (ro_eql rfl rfl rfl) rfl ?_
        refine ops_ro' rfl (ro_assign rfl) rfl ?_
        refine ops_nil ?_
        refine Then_normal ?_
        refine wp_cond' rfl (fun hc52 => ?_) (fun hc52 => ?_)
        · replace hc52 := of_decide_eq_true hc52
          dsimp only at hc52
          refine wp_seq' ?_
          refine wp_region' ?_
          refine ops_ro' rfl (ro_move rfl) rfl ?_
          refine ops_ro' rfl (ro_fieldAddr fa44_1 rfl) rfl ?_
          refine ops_ro' rfl (ro_load sc3 rfl (Rd.pick 0 rfl (Rd.own rfl))) rfl ?_
          refine ops_ro' rfl (ro_fieldAddr fa44_2 rfl) rfl ?_
          refine ops_ro' rfl (ro_load sc3 rfl (Rd.pick 0 rfl (Rd.own rfl))) rfl ?_
          refine ops_eff' rfl (eff_call Try.call15 rfl rfl (by repeat (first | exact Split.nil _ | apply Split.cons 0 rfl | apply Split.cons 1 rfl | apply Split.cons 2 rfl | apply Split.cons 3 rfl | apply Split.cons 4 rfl | apply Split.cons 5 rfl | apply Split.cons 6 rfl | apply Split.cons 7 rfl | apply Split.cons 8 rfl | apply Split.cons 9 rfl | apply Split.cons 10 rfl | apply Split.cons 11 rfl)) (ask_of bt E hT az[i].client az[i].seq)) rfl ?_
          rintro _ H' ⟨_, ⟨how, ra, rfl, hra, hnl, rfl⟩, hH⟩
          simp only [List.cons_append, List.nil_append, List.eraseIdx_cons_zero, List.eraseIdx_cons_succ, List.set_cons_zero, List.set_cons_succ] at hH
          subst hH
          refine ops_ro' rfl (ro_move rfl) rfl ?_
          refine ops_ro' rfl (ro_extract rfl rfl) rfl ?_
          refine ops_ro' rfl (ro_extract rfl rfl) rfl ?_
          refine ops_eff' rfl (eff_alloc z32) rfl ?_
          rintro _ _ ⟨b8, rfl, rfl⟩
          refine ops_ro' rfl (ro_assign rfl) rfl ?_
          refine ops_eff0 rfl (eff_storeA 0 ag32 rfl rfl rfl rfl rfl (Nat.le_of_ble_eq_true rfl) (warm_zero _)) rfl ?_
          rintro _ _ rfl
          refine ops_nil ?_
          refine Then_normal ?_
          refine wp_seq' ?_
          refine wp_region' ?_
          refine ops_ro' rfl (ro_move rfl) rfl ?_
          refine ops_ro' rfl (ro_fieldAddr fa44_1 rfl) rfl ?_
          refine ops_ro' rfl (ro_load sc3 rfl (Rd.pick 5 rfl (Rd.own rfl))) rfl ?_
          refine ops_ro' rfl (ro_fieldAddr fa44_2 rfl) rfl ?_
          refine ops_ro' rfl (ro_load sc3 rfl (Rd.pick 5 rfl (Rd.own rfl))) rfl ?_
          refine ops_eff' rfl (eff_call Try.call48 rfl rfl (by repeat (first | exact Split.nil _ | apply Split.cons 0 rfl | apply Split.cons 1 rfl | apply Split.cons 2 rfl | apply Split.cons 3 rfl | apply Split.cons 4 rfl | apply Split.cons 5 rfl | apply Split.cons 6 rfl | apply Split.cons 7 rfl | apply Split.cons 8 rfl | apply Split.cons 9 rfl | apply Split.cons 10 rfl | apply Split.cons 11 rfl)) (rask_spec V b16 _ s rs hW az[i].client az[i].seq)) rfl ?_
          rintro _ H' ⟨_, ⟨_, ⟨how2, rb, rfl, hrb, hbin, rfl⟩, rfl⟩, hH⟩
          simp only [List.cons_append, List.nil_append, List.eraseIdx_cons_zero, List.eraseIdx_cons_succ, List.set_cons_zero, List.set_cons_succ] at hH
          subst hH
          obtain ⟨rfl, hcc⟩ : how = how2 ∧ ra.c = rb.c := by have := hra.trans hrb.symm; injection this with h1 h2; exact ⟨h1, h2⟩
          refine ops_ro' rfl (ro_move rfl) rfl ?_
          refine ops_ro' rfl (ro_extract rfl rfl) rfl ?_
          refine ops_ro' rfl (ro_extract rfl rfl) rfl ?_
          refine ops_eff' rfl (eff_alloc z32) rfl ?_
          rintro _ _ ⟨b10, rfl, rfl⟩
          refine ops_ro' rfl (ro_assign rfl) rfl ?_
          refine ops_eff0 rfl (eff_storeA 0 ag32 rfl rfl rfl rfl rfl (Nat.le_of_ble_eq_true rfl) (warm_zero _)) rfl ?_
          rintro _ _ rfl
          refine ops_nil ?_
          refine Then_normal ?_
          refine wp_seq' ?_
          refine wp_region' ?_
          refine ops_ro' rfl (ro_move rfl) rfl ?_
          refine ops_ro' rfl (ro_move rfl) rfl ?_
          refine ops_ro' rfl (ro_neq rfl rfl (decide_eq_false (by omega))) rfl ?_
          refine ops_ro' rfl (ro_move (v := .bool false) rfl) rfl ?_
          refine ops_ro' rfl (ro_loadA ag32 rfl (RdN.of_pick 2 rfl ((show RdN _ _ _ (Rp.cs _) from rdn_all))) rfl) rfl ?_
          refine ops_ro' rfl (ro_loadA ag32 rfl (RdN.of_pick 0 rfl ((show RdN _ _ _ (Rp.cs _) from rdn_all))) rfl) rfl ?_
          refine ops_eff' rfl (eff_callM (Pre := []) Try.call17 rfl rfl (Split.nil _) (kreply_same _ ra rb ⟨(by first | exact (Vw.pick 0 rfl hbin.d) | exact (Vw.pick 1 rfl hbin.d) | exact (Vw.pick 2 rfl hbin.d) | exact (Vw.pick 3 rfl hbin.d) | exact (Vw.pick 4 rfl hbin.d) | exact (Vw.pick 5 rfl hbin.d) | exact (Vw.pick 6 rfl hbin.d) | exact (Vw.pick 7 rfl hbin.d) | exact (Vw.pick 8 rfl hbin.d) | exact (Vw.pick 9 rfl hbin.d) | exact (Vw.pick 10 rfl hbin.d) | exact (Vw.pick 11 rfl hbin.d) | exact (Vw.pick 0 rfl hbin.n) | exact (Vw.pick 1 rfl hbin.n) | exact (Vw.pick 2 rfl hbin.n) | exact (Vw.pick 3 rfl hbin.n) | exact (Vw.pick 4 rfl hbin.n) | exact (Vw.pick 5 rfl hbin.n) | exact (Vw.pick 6 rfl hbin.n) | exact (Vw.pick 7 rfl hbin.n) | exact (Vw.pick 8 rfl hbin.n) | exact (Vw.pick 9 rfl hbin.n) | exact (Vw.pick 10 rfl hbin.n) | exact (Vw.pick 11 rfl hbin.n) | exact (Vw.pick 0 rfl hr1.d) | exact (Vw.pick 1 rfl hr1.d) | exact (Vw.pick 2 rfl hr1.d) | exact (Vw.pick 3 rfl hr1.d) | exact (Vw.pick 4 rfl hr1.d) | exact (Vw.pick 5 rfl hr1.d) | exact (Vw.pick 6 rfl hr1.d) | exact (Vw.pick 7 rfl hr1.d) | exact (Vw.pick 8 rfl hr1.d) | exact (Vw.pick 9 rfl hr1.d) | exact (Vw.pick 10 rfl hr1.d) | exact (Vw.pick 11 rfl hr1.d) | exact (Vw.pick 0 rfl hr1.n) | exact (Vw.pick 1 rfl hr1.n) | exact (Vw.pick 2 rfl hr1.n) | exact (Vw.pick 3 rfl hr1.n) | exact (Vw.pick 4 rfl hr1.n) | exact (Vw.pick 5 rfl hr1.n) | exact (Vw.pick 6 rfl hr1.n) | exact (Vw.pick 7 rfl hr1.n) | exact (Vw.pick 8 rfl hr1.n) | exact (Vw.pick 9 rfl hr1.n) | exact (Vw.pick 10 rfl hr1.n) | exact (Vw.pick 11 rfl hr1.n) | exact Vw.pick 0 rfl Vw.row | exact Vw.pick 1 rfl Vw.row | exact Vw.pick 2 rfl Vw.row | exact Vw.pick 3 rfl Vw.row | exact Vw.pick 4 rfl Vw.row | exact Vw.pick 5 rfl Vw.row | exact Vw.pick 6 rfl Vw.row | exact Vw.pick 7 rfl Vw.row | exact Vw.pick 8 rfl Vw.row | exact Vw.pick 9 rfl Vw.row | exact Vw.pick 10 rfl Vw.row | exact Vw.pick 11 rfl Vw.row | exact Vw.nil _), (by first | exact (Vw.pick 0 rfl hbin.d) | exact (Vw.pick 1 rfl hbin.d) | exact (Vw.pick 2 rfl hbin.d) | exact (Vw.pick 3 rfl hbin.d) | exact (Vw.pick 4 rfl hbin.d) | exact (Vw.pick 5 rfl hbin.d) | exact (Vw.pick 6 rfl hbin.d) | exact (Vw.pick 7 rfl hbin.d) | exact (Vw.pick 8 rfl hbin.d) | exact (Vw.pick 9 rfl hbin.d) | exact (Vw.pick 10 rfl hbin.d) | exact (Vw.pick 11 rfl hbin.d) | exact (Vw.pick 0 rfl hbin.n) | exact (Vw.pick 1 rfl hbin.n) | exact (Vw.pick 2 rfl hbin.n) | exact (Vw.pick 3 rfl hbin.n) | exact (Vw.pick 4 rfl hbin.n) | exact (Vw.pick 5 rfl hbin.n) | exact (Vw.pick 6 rfl hbin.n) | exact (Vw.pick 7 rfl hbin.n) | exact (Vw.pick 8 rfl hbin.n) | exact (Vw.pick 9 rfl hbin.n) | exact (Vw.pick 10 rfl hbin.n) | exact (Vw.pick 11 rfl hbin.n) | exact (Vw.pick 0 rfl hr1.d) | exact (Vw.pick 1 rfl hr1.d) | exact (Vw.pick 2 rfl hr1.d) | exact (Vw.pick 3 rfl hr1.d) | exact (Vw.pick 4 rfl hr1.d) | exact (Vw.pick 5 rfl hr1.d) | exact (Vw.pick 6 rfl hr1.d) | exact (Vw.pick 7 rfl hr1.d) | exact (Vw.pick 8 rfl hr1.d) | exact (Vw.pick 9 rfl hr1.d) | exact (Vw.pick 10 rfl hr1.d) | exact (Vw.pick 11 rfl hr1.d) | exact (Vw.pick 0 rfl hr1.n) | exact (Vw.pick 1 rfl hr1.n) | exact (Vw.pick 2 rfl hr1.n) | exact (Vw.pick 3 rfl hr1.n) | exact (Vw.pick 4 rfl hr1.n) | exact (Vw.pick 5 rfl hr1.n) | exact (Vw.pick 6 rfl hr1.n) | exact (Vw.pick 7 rfl hr1.n) | exact (Vw.pick 8 rfl hr1.n) | exact (Vw.pick 9 rfl hr1.n) | exact (Vw.pick 10 rfl hr1.n) | exact (Vw.pick 11 rfl hr1.n) | exact Vw.pick 0 rfl Vw.row | exact Vw.pick 1 rfl Vw.row | exact Vw.pick 2 rfl Vw.row | exact Vw.pick 3 rfl Vw.row | exact Vw.pick 4 rfl Vw.row | exact Vw.pick 5 rfl Vw.row | exact Vw.pick 6 rfl Vw.row | exact Vw.pick 7 rfl Vw.row | exact Vw.pick 8 rfl Vw.row | exact Vw.pick 9 rfl Vw.row | exact Vw.pick 10 rfl Vw.row | exact Vw.pick 11 rfl Vw.row | exact Vw.nil _)⟩ ⟨(by first | exact (Vw.pick 0 rfl hbin.d) | exact (Vw.pick 1 rfl hbin.d) | exact (Vw.pick 2 rfl hbin.d) | exact (Vw.pick 3 rfl hbin.d) | exact (Vw.pick 4 rfl hbin.d) | exact (Vw.pick 5 rfl hbin.d) | exact (Vw.pick 6 rfl hbin.d) | exact (Vw.pick 7 rfl hbin.d) | exact (Vw.pick 8 rfl hbin.d) | exact (Vw.pick 9 rfl hbin.d) | exact (Vw.pick 10 rfl hbin.d) | exact (Vw.pick 11 rfl hbin.d) | exact (Vw.pick 0 rfl hbin.n) | exact (Vw.pick 1 rfl hbin.n) | exact (Vw.pick 2 rfl hbin.n) | exact (Vw.pick 3 rfl hbin.n) | exact (Vw.pick 4 rfl hbin.n) | exact (Vw.pick 5 rfl hbin.n) | exact (Vw.pick 6 rfl hbin.n) | exact (Vw.pick 7 rfl hbin.n) | exact (Vw.pick 8 rfl hbin.n) | exact (Vw.pick 9 rfl hbin.n) | exact (Vw.pick 10 rfl hbin.n) | exact (Vw.pick 11 rfl hbin.n) | exact (Vw.pick 0 rfl hr1.d) | exact (Vw.pick 1 rfl hr1.d) | exact (Vw.pick 2 rfl hr1.d) | exact (Vw.pick 3 rfl hr1.d) | exact (Vw.pick 4 rfl hr1.d) | exact (Vw.pick 5 rfl hr1.d) | exact (Vw.pick 6 rfl hr1.d) | exact (Vw.pick 7 rfl hr1.d) | exact (Vw.pick 8 rfl hr1.d) | exact (Vw.pick 9 rfl hr1.d) | exact (Vw.pick 10 rfl hr1.d) | exact (Vw.pick 11 rfl hr1.d) | exact (Vw.pick 0 rfl hr1.n) | exact (Vw.pick 1 rfl hr1.n) | exact (Vw.pick 2 rfl hr1.n) | exact (Vw.pick 3 rfl hr1.n) | exact (Vw.pick 4 rfl hr1.n) | exact (Vw.pick 5 rfl hr1.n) | exact (Vw.pick 6 rfl hr1.n) | exact (Vw.pick 7 rfl hr1.n) | exact (Vw.pick 8 rfl hr1.n) | exact (Vw.pick 9 rfl hr1.n) | exact (Vw.pick 10 rfl hr1.n) | exact (Vw.pick 11 rfl hr1.n) | exact Vw.pick 0 rfl Vw.row | exact Vw.pick 1 rfl Vw.row | exact Vw.pick 2 rfl Vw.row | exact Vw.pick 3 rfl Vw.row | exact Vw.pick 4 rfl Vw.row | exact Vw.pick 5 rfl Vw.row | exact Vw.pick 6 rfl Vw.row | exact Vw.pick 7 rfl Vw.row | exact Vw.pick 8 rfl Vw.row | exact Vw.pick 9 rfl Vw.row | exact Vw.pick 10 rfl Vw.row | exact Vw.pick 11 rfl Vw.row | exact Vw.nil _), (by first | exact (Vw.pick 0 rfl hbin.d) | exact (Vw.pick 1 rfl hbin.d) | exact (Vw.pick 2 rfl hbin.d) | exact (Vw.pick 3 rfl hbin.d) | exact (Vw.pick 4 rfl hbin.d) | exact (Vw.pick 5 rfl hbin.d) | exact (Vw.pick 6 rfl hbin.d) | exact (Vw.pick 7 rfl hbin.d) | exact (Vw.pick 8 rfl hbin.d) | exact (Vw.pick 9 rfl hbin.d) | exact (Vw.pick 10 rfl hbin.d) | exact (Vw.pick 11 rfl hbin.d) | exact (Vw.pick 0 rfl hbin.n) | exact (Vw.pick 1 rfl hbin.n) | exact (Vw.pick 2 rfl hbin.n) | exact (Vw.pick 3 rfl hbin.n) | exact (Vw.pick 4 rfl hbin.n) | exact (Vw.pick 5 rfl hbin.n) | exact (Vw.pick 6 rfl hbin.n) | exact (Vw.pick 7 rfl hbin.n) | exact (Vw.pick 8 rfl hbin.n) | exact (Vw.pick 9 rfl hbin.n) | exact (Vw.pick 10 rfl hbin.n) | exact (Vw.pick 11 rfl hbin.n) | exact (Vw.pick 0 rfl hr1.d) | exact (Vw.pick 1 rfl hr1.d) | exact (Vw.pick 2 rfl hr1.d) | exact (Vw.pick 3 rfl hr1.d) | exact (Vw.pick 4 rfl hr1.d) | exact (Vw.pick 5 rfl hr1.d) | exact (Vw.pick 6 rfl hr1.d) | exact (Vw.pick 7 rfl hr1.d) | exact (Vw.pick 8 rfl hr1.d) | exact (Vw.pick 9 rfl hr1.d) | exact (Vw.pick 10 rfl hr1.d) | exact (Vw.pick 11 rfl hr1.d) | exact (Vw.pick 0 rfl hr1.n) | exact (Vw.pick 1 rfl hr1.n) | exact (Vw.pick 2 rfl hr1.n) | exact (Vw.pick 3 rfl hr1.n) | exact (Vw.pick 4 rfl hr1.n) | exact (Vw.pick 5 rfl hr1.n) | exact (Vw.pick 6 rfl hr1.n) | exact (Vw.pick 7 rfl hr1.n) | exact (Vw.pick 8 rfl hr1.n) | exact (Vw.pick 9 rfl hr1.n) | exact (Vw.pick 10 rfl hr1.n) | exact (Vw.pick 11 rfl hr1.n) | exact Vw.pick 0 rfl Vw.row | exact Vw.pick 1 rfl Vw.row | exact Vw.pick 2 rfl Vw.row | exact Vw.pick 3 rfl Vw.row | exact Vw.pick 4 rfl Vw.row | exact Vw.pick 5 rfl Vw.row | exact Vw.pick 6 rfl Vw.row | exact Vw.pick 7 rfl Vw.row | exact Vw.pick 8 rfl Vw.row | exact Vw.pick 9 rfl Vw.row | exact Vw.pick 10 rfl Vw.row | exact Vw.pick 11 rfl Vw.row | exact Vw.nil _)⟩ hcc hnl)) rfl ?_
          rintro _ H' ⟨_, ⟨rfl, rfl⟩, hH⟩
          simp only [List.cons_append, List.nil_append, List.eraseIdx_cons_zero, List.eraseIdx_cons_succ, List.set_cons_zero, List.set_cons_succ] at hH
          subst hH
          refine ops_ro' rfl (ro_not rfl rfl) rfl ?_
          refine ops_ro' rfl (ro_pick rfl rfl) rfl ?_
          refine ops_nil ?_
          refine Then_normal ?_
          refine wp_condF rfl ?_
          refine wp_skip' ?_
          refine InBlock_normal ?_
          refine Then_normal ?_
          refine over_cut (kept ⟨bt, E, s, rs, ⟨hT, hW⟩, rfl, rfl⟩ ?_ ?_ ?_)
          · exact (by repeat (first | exact Has.nil _ | refine Has.cons rfl ?_))
          · exact (by repeat (first | exact Has.nil _ | refine Has.cons rfl ?_))
          · exact (SubH.cons 5 rfl (SubH.cons 5 rfl (SubH.cons 1 rfl (SubH.cons 5 rfl (SubH.nil _)))))
        · replace hc52 := of_decide_eq_false hc52
          dsimp only at hc52
          refine wp_seq' ?_
          refine wp_region' ?_
          refine ops_ro' rfl (ro_eql rfl rfl rfl) rfl ?_
          refine ops_ro' rfl (ro_assign rfl) rfl ?_
          refine ops_nil ?_
          refine Then_normal ?_
          refine wp_cond' rfl (fun hc81 => ?_) (fun hc81 => ?_)
          · replace hc81 := of_decide_eq_true hc81
            dsimp only at hc81
            refine wp_seq' ?_
            refine wp_draw 17 (by kernel_rfl) (Split.cons 0 rfl (Split.nil _)) ?_
            refine any_ro' (i := 0) (by kernel_rfl) rfl rfl (ro_move rfl) rfl (fun _ _ _ h => h) ?_
            refine any_ro' (i := 1) (by kernel_rfl) rfl rfl (ro_fieldAddr fa44_1 rfl) rfl (fun _ _ _ h => h) ?_
            refine any_ro' (i := 2) (by kernel_rfl) rfl rfl (ro_load sc3 rfl (Rd.pick 0 rfl (Rd.own rfl))) rfl (fun _ _ _ h => h) ?_
            refine any_ro' (i := 3) (by kernel_rfl) rfl rfl (ro_fieldAddr fa44_2 rfl) rfl (fun _ _ _ h => h) ?_
            refine any_ro' (i := 4) (by kernel_rfl) rfl rfl (ro_load sc3 rfl (Rd.pick 0 rfl (Rd.own rfl))) rfl (fun _ _ _ h => h) ?_
            refine any_ro' (i := 5) (by kernel_rfl) rfl rfl (ro_fieldAddr fa44_3 rfl) rfl (fun _ _ _ h => h) ?_
            refine any_ro' (i := 6) (by kernel_rfl) rfl rfl (ro_loadA ag32 rfl (RdN.of_pick 0 rfl ((show RdN _ _ _ (Rp.cs r1) from (rdn_all (cs := Aq.cs ⟨az[i].kind, az[i].client, az[i].seq, r1⟩)).sub (k := 3) fun j u hj => by rw [Nat.add_comm]; exact hj))) rfl) rfl (fun _ _ _ h => h) ?_
            refine any_ro' (i := 8) (by kernel_rfl) rfl rfl (ro_move rfl) rfl (fun _ _ _ h => h) ?_
            refine any_ro' (i := 9) (by kernel_rfl) rfl rfl (ro_fieldAddr fa44_1 rfl) rfl (fun _ _ _ h => h) ?_
            refine any_ro' (i := 10) (by kernel_rfl) rfl rfl (ro_load sc3 rfl (Rd.pick 0 rfl (Rd.own rfl))) rfl (fun _ _ _ h => h) ?_
            refine any_ro' (i := 11) (by kernel_rfl) rfl rfl (ro_fieldAddr fa44_2 rfl) rfl (fun _ _ _ h => h) ?_
            refine any_ro' (i := 12) (by kernel_rfl) rfl rfl (ro_load sc3 rfl (Rd.pick 0 rfl (Rd.own rfl))) rfl (fun _ _ _ h => h) ?_
            refine any_ro' (i := 13) (by kernel_rfl) rfl rfl (ro_fieldAddr fa44_3 rfl) rfl (fun _ _ _ h => h) ?_
            refine any_ro' (i := 14) (by kernel_rfl) rfl rfl (ro_loadA ag32 rfl (RdN.of_pick 0 rfl ((show RdN _ _ _ (Rp.cs r1) from (rdn_all (cs := Aq.cs ⟨az[i].kind, az[i].client, az[i].seq, r1⟩)).sub (k := 3) fun j u hj => by rw [Nat.add_comm]; exact hj))) rfl) rfl (fun _ _ _ h => h) ?_
            refine any_eff' (i := 7) (by kernel_rfl) rfl rfl (eff_callM (Pre := [_, _]) Try.call16 rfl rfl (by repeat (first | exact Split.nil _ | apply Split.cons 0 rfl | apply Split.cons 1 rfl | apply Split.cons 2 rfl | apply Split.cons 3 rfl | apply Split.cons 4 rfl | apply Split.cons 5 rfl | apply Split.cons 6 rfl | apply Split.cons 7 rfl | apply Split.cons 8 rfl | apply Split.cons 9 rfl | apply Split.cons 10 rfl | apply Split.cons 11 rfl)) (done_of bt E hT az[i].client az[i].seq r1 _ ⟨(by first | exact (Vw.pick 0 rfl hbin.d) | exact (Vw.pick 1 rfl hbin.d) | exact (Vw.pick 2 rfl hbin.d) | exact (Vw.pick 3 rfl hbin.d) | exact (Vw.pick 4 rfl hbin.d) | exact (Vw.pick 5 rfl hbin.d) | exact (Vw.pick 6 rfl hbin.d) | exact (Vw.pick 7 rfl hbin.d) | exact (Vw.pick 8 rfl hbin.d) | exact (Vw.pick 9 rfl hbin.d) | exact (Vw.pick 10 rfl hbin.d) | exact (Vw.pick 11 rfl hbin.d) | exact (Vw.pick 0 rfl hbin.n) | exact (Vw.pick 1 rfl hbin.n) | exact (Vw.pick 2 rfl hbin.n) | exact (Vw.pick 3 rfl hbin.n) | exact (Vw.pick 4 rfl hbin.n) | exact (Vw.pick 5 rfl hbin.n) | exact (Vw.pick 6 rfl hbin.n) | exact (Vw.pick 7 rfl hbin.n) | exact (Vw.pick 8 rfl hbin.n) | exact (Vw.pick 9 rfl hbin.n) | exact (Vw.pick 10 rfl hbin.n) | exact (Vw.pick 11 rfl hbin.n) | exact (Vw.pick 0 rfl hr1.d) | exact (Vw.pick 1 rfl hr1.d) | exact (Vw.pick 2 rfl hr1.d) | exact (Vw.pick 3 rfl hr1.d) | exact (Vw.pick 4 rfl hr1.d) | exact (Vw.pick 5 rfl hr1.d) | exact (Vw.pick 6 rfl hr1.d) | exact (Vw.pick 7 rfl hr1.d) | exact (Vw.pick 8 rfl hr1.d) | exact (Vw.pick 9 rfl hr1.d) | exact (Vw.pick 10 rfl hr1.d) | exact (Vw.pick 11 rfl hr1.d) | exact (Vw.pick 0 rfl hr1.n) | exact (Vw.pick 1 rfl hr1.n) | exact (Vw.pick 2 rfl hr1.n) | exact (Vw.pick 3 rfl hr1.n) | exact (Vw.pick 4 rfl hr1.n) | exact (Vw.pick 5 rfl hr1.n) | exact (Vw.pick 6 rfl hr1.n) | exact (Vw.pick 7 rfl hr1.n) | exact (Vw.pick 8 rfl hr1.n) | exact (Vw.pick 9 rfl hr1.n) | exact (Vw.pick 10 rfl hr1.n) | exact (Vw.pick 11 rfl hr1.n) | exact Vw.pick 0 rfl Vw.row | exact Vw.pick 1 rfl Vw.row | exact Vw.pick 2 rfl Vw.row | exact Vw.pick 3 rfl Vw.row | exact Vw.pick 4 rfl Vw.row | exact Vw.pick 5 rfl Vw.row | exact Vw.pick 6 rfl Vw.row | exact Vw.pick 7 rfl Vw.row | exact Vw.pick 8 rfl Vw.row | exact Vw.pick 9 rfl Vw.row | exact Vw.pick 10 rfl Vw.row | exact Vw.pick 11 rfl Vw.row | exact Vw.nil _), (by first | exact (Vw.pick 0 rfl hbin.d) | exact (Vw.pick 1 rfl hbin.d) | exact (Vw.pick 2 rfl hbin.d) | exact (Vw.pick 3 rfl hbin.d) | exact (Vw.pick 4 rfl hbin.d) | exact (Vw.pick 5 rfl hbin.d) | exact (Vw.pick 6 rfl hbin.d) | exact (Vw.pick 7 rfl hbin.d) | exact (Vw.pick 8 rfl hbin.d) | exact (Vw.pick 9 rfl hbin.d) | exact (Vw.pick 10 rfl hbin.d) | exact (Vw.pick 11 rfl hbin.d) | exact (Vw.pick 0 rfl hbin.n) | exact (Vw.pick 1 rfl hbin.n) | exact (Vw.pick 2 rfl hbin.n) | exact (Vw.pick 3 rfl hbin.n) | exact (Vw.pick 4 rfl hbin.n) | exact (Vw.pick 5 rfl hbin.n) | exact (Vw.pick 6 rfl hbin.n) | exact (Vw.pick 7 rfl hbin.n) | exact (Vw.pick 8 rfl hbin.n) | exact (Vw.pick 9 rfl hbin.n) | exact (Vw.pick 10 rfl hbin.n) | exact (Vw.pick 11 rfl hbin.n) | exact (Vw.pick 0 rfl hr1.d) | exact (Vw.pick 1 rfl hr1.d) | exact (Vw.pick 2 rfl hr1.d) | exact (Vw.pick 3 rfl hr1.d) | exact (Vw.pick 4 rfl hr1.d) | exact (Vw.pick 5 rfl hr1.d) | exact (Vw.pick 6 rfl hr1.d) | exact (Vw.pick 7 rfl hr1.d) | exact (Vw.pick 8 rfl hr1.d) | exact (Vw.pick 9 rfl hr1.d) | exact (Vw.pick 10 rfl hr1.d) | exact (Vw.pick 11 rfl hr1.d) | exact (Vw.pick 0 rfl hr1.n) | exact (Vw.pick 1 rfl hr1.n) | exact (Vw.pick 2 rfl hr1.n) | exact (Vw.pick 3 rfl hr1.n) | exact (Vw.pick 4 rfl hr1.n) | exact (Vw.pick 5 rfl hr1.n) | exact (Vw.pick 6 rfl hr1.n) | exact (Vw.pick 7 rfl hr1.n) | exact (Vw.pick 8 rfl hr1.n) | exact (Vw.pick 9 rfl hr1.n) | exact (Vw.pick 10 rfl hr1.n) | exact (Vw.pick 11 rfl hr1.n) | exact Vw.pick 0 rfl Vw.row | exact Vw.pick 1 rfl Vw.row | exact Vw.pick 2 rfl Vw.row | exact Vw.pick 3 rfl Vw.row | exact Vw.pick 4 rfl Vw.row | exact Vw.pick 5 rfl Vw.row | exact Vw.pick 6 rfl Vw.row | exact Vw.pick 7 rfl Vw.row | exact Vw.pick 8 rfl Vw.row | exact Vw.pick 9 rfl Vw.row | exact Vw.pick 10 rfl Vw.row | exact Vw.pick 11 rfl Vw.row | exact Vw.nil _)⟩ hsm)) rfl ?_
            rintro _ H' ⟨_, ⟨d, E', hd, hT', rfl, rfl⟩, hH⟩
            simp only [List.cons_append, List.nil_append, List.eraseIdx_cons_zero, List.eraseIdx_cons_succ, List.set_cons_zero, List.set_cons_succ] at hH
            subst hH
            refine any_eff' (i := 15) (by kernel_rfl) rfl rfl (eff_call Try.call49 rfl rfl (by repeat (first | exact Split.nil _ | apply Split.cons 0 rfl | apply Split.cons 1 rfl | apply Split.cons 2 rfl | apply Split.cons 3 rfl | apply Split.cons 4 rfl | apply Split.cons 5 rfl | apply Split.cons 6 rfl | apply Split.cons 7 rfl | apply Split.cons 8 rfl | apply Split.cons 9 rfl | apply Split.cons 10 rfl | apply Split.cons 11 rfl)) (rdone_spec V b16 _ s rs hW az[i].client az[i].seq r1 hr1)) rfl ?_
            rintro _ H' ⟨_, ⟨d2, ⟨X', s', rs', hd2, hW', rfl⟩, rfl⟩, hH⟩
            simp only [List.cons_append, List.nil_append, List.eraseIdx_cons_zero, List.eraseIdx_cons_succ, List.set_cons_zero, List.set_cons_succ] at hH
            subst hH
            rw [hd] at hd2
            injection hd2 with hdd hXX
            subst hdd
            subst hXX
            refine any_ro' (i := 16) (by kernel_rfl) rfl rfl (ro_neq rfl rfl (decide_eq_false (by omega))) rfl (fun _ _ _ h => h) ?_
            refine any_done (by kernel_rfl) ?_
            refine Then_normal ?_
            refine wp_condF rfl ?_
            refine wp_skip' ?_
            refine InBlock_normal ?_
            refine Then_normal ?_
            refine over_cut (kept ⟨bt, E', s', rs', ⟨hT', hW'⟩, rfl, rfl⟩ ?_ ?_ ?_)
            · exact (by repeat (first | exact Has.nil _ | refine Has.cons rfl ?_))
            · exact (by repeat (first | exact Has.nil _ | refine Has.cons rfl ?_))
            · exact (SubH.cons 2 rfl (SubH.cons 2 rfl (SubH.cons 1 rfl (SubH.cons 1 rfl (SubH.nil _)))))
          · replace hc81 := of_decide_eq_false hc81
            dsimp only at hc81
            refine wp_seq' ?_
            refine wp_region' ?_
            refine ops_ro' rfl (ro_move rfl) rfl ?_
            refine ops_eff' rfl (eff_call Try.call47 rfl rfl (by repeat (first | exact Split.nil _ | apply Split.cons 0 rfl | apply Split.cons 1 rfl | apply Split.cons 2 rfl | apply Split.cons 3 rfl | apply Split.cons 4 rfl | apply Split.cons 5 rfl | apply Split.cons 6 rfl | apply Split.cons 7 rfl | apply Split.cons 8 rfl | apply Split.cons 9 rfl | apply Split.cons 10 rfl | apply Split.cons 11 rfl)) (save_spec bt E hT.len hT.ok (by have := hT.size; omega))) rfl ?_
            rintro _ H' ⟨_, ⟨ps, cs, rfl, rfl⟩, hH⟩
            simp only [List.cons_append, List.nil_append, List.eraseIdx_cons_zero, List.eraseIdx_cons_succ, List.set_cons_zero, List.set_cons_succ] at hH
            subst hH
            refine ops_eff' rfl (eff_call Try.call46 rfl rfl (by repeat (first | exact Split.nil _ | apply Split.cons 0 rfl | apply Split.cons 1 rfl | apply Split.cons 2 rfl | apply Split.cons 3 rfl | apply Split.cons 4 rfl | apply Split.cons 5 rfl | apply Split.cons 6 rfl | apply Split.cons 7 rfl | apply Split.cons 8 rfl | apply Split.cons 9 rfl | apply Split.cons 10 rfl | apply Split.cons 11 rfl)) (load_spec _ _ _ (tenc (E.map En.sc)) Vw.row (by have := hT.size; omega))) rfl ?_
            rintro _ H' ⟨_, ⟨K, hK, rfl⟩, hH⟩
            rcases hK with ⟨hn, _, _⟩ | ⟨xs, bu, Eu, hx, _, hEu, hmu, hou, hsu, rfl, rfl⟩
            · exact absurd (hT.loads.symm.trans hn) (by simp)
            have hmu2 : Eu.map En.sc = E.map En.sc := by rw [hmu]; exact (Option.some.inj (hT.loads.symm.trans hx)).symm
            have hTu := hT.of_map hmu2
            have hWu := hW
            rw [← hmu2] at hWu
            simp only [List.cons_append, List.nil_append, List.eraseIdx_cons_zero, List.eraseIdx_cons_succ, List.set_cons_zero, List.set_cons_succ] at hH
            subst hH
            refine ops_ro' rfl (ro_move rfl) rfl ?_
            refine ops_ro' rfl (ro_extract rfl rfl) rfl ?_
            refine ops_ro' rfl (ro_extract rfl rfl) rfl ?_
            refine ops_ro' rfl (ro_assign rfl) rfl ?_
            refine ops_ro' rfl (ro_assign rfl) rfl ?_
            refine ops_nil ?_
            refine Then_normal ?_
            refine wp_seq' ?_
            refine wp_seq' ?_
            refine wp_region' ?_
            refine ops_ro' rfl (ro_move rfl) rfl ?_
            refine ops_ro' rfl (ro_ptrEqlNil Try.underlying23 rfl rfl rfl) rfl ?_
            refine ops_ro' rfl (ro_move (v := .bool false) rfl) rfl ?_
            refine ops_ro' rfl (ro_move rfl) rfl ?_
            refine ops_ro' rfl (ro_neq rfl rfl (decide_eq_false (by omega))) rfl ?_
            refine ops_ro' rfl (ro_pick rfl rfl) rfl ?_
            refine ops_nil ?_
            refine Then_normal ?_
            refine wp_condF rfl ?_
            refine wp_skip' ?_
            refine Then_normal ?_
            refine wp_region' ?_
            refine ops_ro' rfl (ro_move rfl) rfl ?_
            refine ops_ro' rfl (ro_assign rfl) rfl ?_
            refine ops_nil ?_
            refine InBlock_normal ?_
            refine Then_normal ?_
            refine over_cut (kept ⟨bu, Eu, s, rs, ⟨hTu, hWu⟩, rfl, rfl⟩ ?_ ?_ ?_)
            · exact (by repeat (first | exact Has.nil _ | refine Has.cons rfl ?_))
            · exact (by repeat (first | exact Has.nil _ | refine Has.cons rfl ?_))
            · exact (SubH.cons 0 rfl (SubH.cons 0 rfl (SubH.cons 4 rfl (SubH.cons 4 rfl (SubH.nil _)))))
      · rintro Δ L ⟨bt, E, s, rs, ⟨hT, hW⟩, rfl, rfl⟩
        simp only [List.cons_append, List.nil_append]
        refine wp_seq' ?_
        refine wp_region' ?_
        refine ops_ro' rfl (ro_assign rfl) rfl ?_
        refine ops_nil ?_
        refine Then_normal ?_
        refine wp_block' ?_
        refine wp_loopK 24 (fun m Δ L => ∃ (k : Nat), (k + m = 16) ∧ Δ = [(13, .int .i64 (k : Nat))] ∧ L = [tab bt E, owns E, wtab b16 s rs, V]) (m := 16) (Has.cons (k := 0) rfl (Has.cons (k := 3) rfl (Has.cons (k := 4) rfl (Has.cons (k := 5) rfl (Has.nil _))))) (kept ⟨0, (by omega), rfl, rfl⟩ (by repeat (first | exact Has.nil _ | refine Has.cons rfl ?_)) (by repeat (first | exact Has.nil _ | refine Has.cons rfl ?_)) (by repeat (first | exact SubH.nil _ | refine SubH.cons 0 rfl ?_ | refine SubH.cons 1 rfl ?_ | refine SubH.cons 2 rfl ?_ | refine SubH.cons 3 rfl ?_ | refine SubH.cons 4 rfl ?_ | refine SubH.cons 5 rfl ?_ | refine SubH.cons 6 rfl ?_ | refine SubH.cons 7 rfl ?_ | refine SubH.cons 8 rfl ?_ | refine SubH.cons 9 rfl ?_ | refine SubH.cons 10 rfl ?_ | refine SubH.cons 11 rfl ?_ | refine SubH.cons 12 rfl ?_ | refine SubH.cons 13 rfl ?_ | refine SubH.rown ?_))) ?_
        rintro m2 Δ L ⟨k, hp24, rfl, rfl⟩
        simp only [List.cons_append, List.nil_append]
        refine wp_seq' ?_
        refine wp_seq' ?_
        refine wp_region' ?_
        refine ops_ro' rfl (ro_move rfl) rfl ?_
        refine ops_ro' rfl (ro_lss rfl rfl rfl) rfl ?_
        refine ops_nil ?_
        refine Then_normal ?_
        refine wp_cond' rfl (fun hc101 => ?_) (fun hc101 => ?_)
        · replace hc101 := of_decide_eq_true hc101
          have hk : k < 16 := by omega
          obtain ⟨x, r, hx, hr, hsx⟩ := hW.at' hk
          obtain ⟨e, he, hes⟩ : ∃ e, E[k]? = some e ∧ e.sc = (x, r.c) := by rw [List.getElem?_map] at hx; cases h1 : E[k]? with
            | none => rw [h1] at hx; cases hx
            | some e => rw [h1] at hx; exact ⟨e, rfl, by injection hx⟩
          refine wp_skip' ?_
          refine Then_normal ?_
          refine wp_seq' ?_
          refine wp_block' ?_
          refine wp_seq' ?_
          refine wp_draw 10 (by kernel_rfl) (Split.cons 2 rfl (Split.nil _)) ?_
          refine any_ro' (i := 0) (by kernel_rfl) rfl rfl (ro_move rfl) rfl (fun _ _ _ h => h) ?_
          refine any_ro' (i := 1) (by kernel_rfl) rfl rfl (ro_move rfl) rfl (fun _ _ _ h => h) ?_
          refine any_ro' (i := 3) (by kernel_rfl) rfl rfl (ro_move rfl) rfl (fun _ _ _ h => h) ?_
          refine any_ro' (i := 4) (by kernel_rfl) rfl rfl (ro_move rfl) rfl (fun _ _ _ h => h) ?_
          refine any_ro' (i := 5) (by kernel_rfl) rfl rfl (ro_nilCheck rfl) rfl (fun _ _ _ h => h) ?_
          refine any_ro' (i := 6) (by kernel_rfl) rfl rfl (ro_fieldAddr fa88_0 rfl) rfl (fun _ _ _ h => h) ?_
          refine any_ro' (i := 7) (by kernel_rfl) rfl rfl (ro_indexArr Try.underlying85 (fun w => Try.sizeOf3 w) rfl rfl rfl (by omega)) rfl (fun _ _ _ h => h) ?_
          refine any_ro' (i := 8) (by kernel_rfl) rfl rfl (ro_load sc3 rfl (Rd.pick 0 rfl (wtab_s hsx hk))) rfl (fun _ _ _ h => h) ?_
          refine any_eff' (i := 2) (by kernel_rfl) rfl rfl (eff_call Try.call18 rfl rfl (by repeat (first | exact Split.nil _ | apply Split.cons 0 rfl | apply Split.cons 1 rfl | apply Split.cons 2 rfl | apply Split.cons 3 rfl | apply Split.cons 4 rfl | apply Split.cons 5 rfl | apply Split.cons 6 rfl | apply Split.cons 7 rfl | apply Split.cons 8 rfl | apply Split.cons 9 rfl | apply Split.cons 10 rfl | apply Split.cons 11 rfl)) (last_spec bt E hT.len (k : Nat))) rfl ?_
          rintro _ H' ⟨_, ⟨rfl, rfl⟩, hH⟩
          simp only [List.cons_append, List.nil_append, List.eraseIdx_cons_zero, List.eraseIdx_cons_succ, List.set_cons_zero, List.set_cons_succ] at hH
          subst hH
          rw [lastOf_in he hT.len, show e.seq = x from congrArg Prod.fst hes]
          refine any_ro' (i := 9) (by kernel_rfl) rfl rfl (ro_neq rfl rfl (decide_eq_false (by omega))) rfl (fun _ _ _ h => h) ?_
          refine any_done (by kernel_rfl) ?_
          refine Then_normal ?_
          refine wp_condF rfl ?_
          refine wp_skip' ?_
          refine InBlock_normal ?_
          refine Then_normal ?_
          refine wp_region' ?_
          refine ops_ro' rfl (ro_move rfl) rfl ?_
          refine ops_ro' rfl (ro_add rfl rfl (wrap_inc (by omega))) rfl ?_
          refine ops_ro' rfl (ro_assign rfl) rfl ?_
          refine ops_nil ?_
          refine Then_normal ?_
          refine back (m2 - 1) (by omega) (kept ⟨k + 1, (by omega), rfl, rfl⟩ ?_ ?_ ?_)
          · exact (by repeat (first | exact Has.nil _ | refine Has.cons rfl ?_))
          · exact (by repeat (first | exact Has.nil _ | refine Has.cons rfl ?_))
          · exact (SubH.cons 1 rfl (SubH.cons 1 rfl (SubH.cons 0 rfl (SubH.cons 0 rfl (SubH.nil _)))))
        · replace hc101 := of_decide_eq_false hc101
          refine wp_exit' ?_
          refine Then_exit ?_
          refine Then_exit ?_
          refine InBlock_here ?_
          refine InBlock_normal ?_
          refine Then_normal ?_
          refine wp_region' ?_
          refine ops_ro' rfl (ro_move rfl) rfl ?_
          refine ops_ro' rfl (ro_add rfl rfl (wrap_inc (by omega))) rfl ?_
          refine ops_ro' rfl (ro_assign rfl) rfl ?_
          refine ops_nil ?_
          refine Then_normal ?_
          refine back (m - 1) (by omega) (kept ⟨i + 1, bt, E, s, rs, ⟨by omega, by omega, hT, hW⟩, rfl, rfl⟩ ?_ ?_ ?_)
          · exact (by repeat (first | exact Has.nil _ | refine Has.cons rfl ?_))
          · exact (by repeat (first | exact Has.nil _ | refine Has.cons rfl ?_))
          · exact SubH.refl _
    · replace hc26 := of_decide_eq_false hc26
      refine wp_exit' ?_
      refine Then_exit ?_
      refine Then_exit ?_
      refine InBlock_here ?_
      refine Then_normal ?_
      refine wp_seq' ?_
      refine wp_region' ?_
      refine ops_eff' rfl (eff_call Try.call19 rfl rfl (by repeat (first | exact Split.nil _ | apply Split.cons 0 rfl | apply Split.cons 1 rfl | apply Split.cons 2 rfl | apply Split.cons 3 rfl | apply Split.cons 4 rfl | apply Split.cons 5 rfl | apply Split.cons 6 rfl | apply Split.cons 7 rfl | apply Split.cons 8 rfl | apply Split.cons 9 rfl | apply Split.cons 10 rfl | apply Split.cons 11 rfl)) (known21_spec)) rfl ?_
      rintro _ H' ⟨_, ⟨rfl, rfl⟩, hH⟩
      simp only [List.cons_append, List.nil_append, List.eraseIdx_cons_zero, List.eraseIdx_cons_succ, List.set_cons_zero, List.set_cons_succ] at hH
      subst hH
      refine ops_ro' rfl (ro_assign rfl) rfl ?_
      refine ops_nil ?_
      refine Then_normal ?_
      refine wp_ret' ?_
      refine' doneS_ret (res1 rfl rfl) ?_ ?_
      rotate_left 1
      exact ⟨rfl, rfl⟩
      exact (SubH.cons 3 rfl (SubH.nil _))
  · replace hg23 := of_decide_eq_false hg23
    refine ops_skip' rfl rfl ?_
    refine ops_skip' rfl rfl ?_
    refine ops_ro' rfl (ro_pick rfl rfl) rfl ?_
    refine ops_nil ?_
    refine Then_normal ?_
    refine wp_condF rfl ?_
    refine wp_exit' ?_
    refine Then_exit ?_
    refine Then_exit ?_
    refine InBlock_here ?_
    refine Then_normal ?_
    refine wp_seq' ?_
    refine wp_region' ?_
    refine ops_eff' rfl (eff_call Try.call19 rfl rfl (by repeat (first | exact Split.nil _ | apply Split.cons 0 rfl | apply Split.cons 1 rfl | apply Split.cons 2 rfl | apply Split.cons 3 rfl | apply Split.cons 4 rfl | apply Split.cons 5 rfl | apply Split.cons 6 rfl | apply Split.cons 7 rfl | apply Split.cons 8 rfl | apply Split.cons 9 rfl | apply Split.cons 10 rfl | apply Split.cons 11 rfl)) (known21_spec)) rfl ?_
    rintro _ H' ⟨_, ⟨rfl, rfl⟩, hH⟩
    simp only [List.cons_append, List.nil_append, List.eraseIdx_cons_zero, List.eraseIdx_cons_succ, List.set_cons_zero, List.set_cons_succ] at hH
    subst hH
    refine ops_ro' rfl (ro_assign rfl) rfl ?_
    refine ops_nil ?_
    refine Then_normal ?_
    refine wp_ret' ?_
    refine' doneS_ret (res1 rfl rfl) ?_ ?_
    rotate_left 1
    exact ⟨rfl, rfl⟩
    exact (SubH.cons 3 rfl (SubH.nil _))

end Go.Proofs.Ytbiohhfibkolgaa
