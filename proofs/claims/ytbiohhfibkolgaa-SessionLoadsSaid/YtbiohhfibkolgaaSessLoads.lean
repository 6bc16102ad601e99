/-
  The walk of SessionLoads.
-/
import Derived.Test.YtbiohhfibkolgaaRef21B
namespace Go.Proofs.Ytbiohhfibkolgaa
open Go.Sx
set_option linter.unusedVariables false
set_option linter.unusedSimpArgs false
set_option maxRecDepth 100000
set_option maxHeartbeats 4000000

theorem done_full (bt : Nat) (E : List En) (hT : Tbl E) (W : HProp) : Tri Try.prog 16 [.pointer (some ⟨bt, 0, none⟩), .int .i64 3, .int .i64 1073741824, Rp.zero.v] [tab bt E, owns E, W]
    (fun v H' => ∃ K, (∃ E' : List En, E'.length = 16 ∧ lastOf E' 3 = 1073741824 ∧ K = [tab bt E', owns E']) ∧ H' = K ++ [W]) := by
  refine tri_weak (done_spec' bt E hT.len hT.short 3 1073741824 Rp.zero W ⟨Vw.nil _, Vw.nil _⟩ (by decide) (by decide)) ?_
  rintro v H ⟨K, ⟨how, r0, hto, h⟩, rfl⟩
  have hlt : 3 < E.length := by rw [hT.len]; decide
  obtain ⟨e, he⟩ : ∃ e, E[3]? = some e := ⟨_, List.getElem?_eq_getElem hlt⟩
  have hto' : Told E ((3 : Nat) : Int) 1073741824 how r0 := hto
  have hfe := (hT.sm e (List.mem_of_getElem? he)).2.2.1
  have hfe' : e.seq ≤ 1073741824 := hfe
  rcases h with ⟨hn, rfl, rfl⟩ | ⟨c, r', hc, h1, hc16, hr', rfl, rfl⟩
  · refine ⟨_, ⟨_, ⟨E, hT.len, ?_, rfl⟩, rfl⟩, SubH.refl _⟩
    rcases told_det hT.len he (by decide) (by decide) hto' with ⟨h1, _, _⟩ | ⟨_, _, h2⟩ | ⟨_, _, h2⟩
    · omega
    · exact (lastOf_in (c := 3) he hT.len).trans h2.symm
    · omega
  · obtain rfl : c = 3 := by omega
    refine ⟨_, ⟨_, ⟨E.set 3 ⟨1073741824, r'⟩, by rw [List.length_set]; exact hT.len, ?_, rfl⟩, rfl⟩, SubH.cons 1 rfl (SubH.cons 0 rfl (SubH.cons 0 rfl (SubH.nil _)))⟩
    exact lastOf_in (c := 3) (st_eq hT.len (by decide)) (by rw [List.length_set]; exact hT.len)
theorem aq_f {V : HProp} {b o i : Nat} {az : List Aq} {a : Aq} (h : RdN V b o (flat Aq.cs az)) (hi : az[i]? = some a) (j : Nat) (u : Value) (hj : a.cs[j]? = some u) : Rd V b (o + i * 15 + j) u := RdN.elem h Aq.len hi j u hj
theorem sloads_run (V : HProp) (hdup : star V V = V) (p : Option Addr) (c : Nat) (b : List UInt8) (hV : Vw V (.slice p b.length c) b.length (cel b)) (hl : b.length ≤ 140737488355328) (q : Option Addr) (cq : Nat) (az : List Aq) (hAV : Vw V (.slice q az.length cq) az.length (flat Aq.cs az)) (has : ∀ a ∈ az, a.Ok V) (at' : Int) (hat : -9223372036854775808 ≤ at' ∧ at' ≤ 9223372036854775807) (turn : UInt8) :
    Tri Try.prog 13 [.slice p b.length c, .slice q az.length cq, .int .i64 at', byteV turn] [V] (fun v H' => v = .bool true ∧ H' = [V]) := by
  refine tri_of_wpS Try.func13 rfl Try.ntmps13 (by simp) ?_
  refine wp_seq' ?_
  refine wp_region' ?_
  refine ops_ro' rfl (ro_assign rfl) rfl ?_
  refine ops_nil ?_
  refine Then_normal ?_
  refine wp_seq' ?_
  refine wp_region' ?_
  refine ops_eff' rfl (eff_call Try.call14 rfl rfl (by repeat (first | exact Split.nil _ | apply Split.cons 0 rfl | apply Split.cons 1 rfl | apply Split.cons 2 rfl | apply Split.cons 3 rfl | apply Split.cons 4 rfl | apply Split.cons 5 rfl | apply Split.cons 6 rfl | apply Split.cons 7 rfl | apply Split.cons 8 rfl | apply Split.cons 9 rfl | apply Split.cons 10 rfl | apply Split.cons 11 rfl)) (tnew_spec)) rfl ?_
  rintro _ H' ⟨_, ⟨bt, rfl, rfl⟩, hH⟩
  simp only [List.cons_append, List.nil_append, List.eraseIdx_cons_zero, List.eraseIdx_cons_succ, List.set_cons_zero, List.set_cons_succ] at hH
  subst hH
  refine ops_ro' rfl (ro_assign rfl) rfl ?_
  refine ops_nil ?_
  refine Then_normal ?_
  refine wp_seq' ?_
  refine wp_seq' ?_
  refine wp_region' ?_
  refine ops_ro' rfl (ro_move rfl) rfl ?_
  refine ops_ro' rfl (ro_ptrEqlNil Try.underlying23 rfl rfl rfl) rfl ?_
  refine ops_nil ?_
  refine Then_normal ?_
  refine wp_condF rfl ?_
  refine wp_skip' ?_
  refine Then_normal ?_
  refine wp_seq' ?_
  refine wp_seq' ?_
  refine wp_region' ?_
  refine ops_ro' rfl (ro_assign rfl) rfl ?_
  refine ops_nil ?_
  refine Then_normal ?_
  refine wp_block' ?_
  refine wp_loopK 5 (fun m Δ L => ∃ (i : Nat) (E : List En), (i + m = az.length ∧ i ≤ 10 ∧ Tbl E) ∧ Δ = [(10, .int .i64 (i : Nat))] ∧ L = [tab bt E, owns E, V]) (m := az.length) (Has.cons (k := 0) rfl (Has.cons (k := 1) rfl (Has.cons (k := 2) rfl (Has.cons (k := 3) rfl (Has.cons (k := 9) rfl (Has.nil _)))))) (kept ⟨0, (List.replicate 16 En.zero), ⟨by omega, by omega, Tbl.zero⟩, rfl, rfl⟩ (by repeat (first | exact Has.nil _ | refine Has.cons rfl ?_)) (by repeat (first | exact Has.nil _ | refine Has.cons rfl ?_)) (by repeat (first | exact SubH.nil _ | refine SubH.cons 0 rfl ?_ | refine SubH.cons 1 rfl ?_ | refine SubH.cons 2 rfl ?_ | refine SubH.cons 3 rfl ?_ | refine SubH.cons 4 rfl ?_ | refine SubH.cons 5 rfl ?_ | refine SubH.cons 6 rfl ?_ | refine SubH.cons 7 rfl ?_ | refine SubH.cons 8 rfl ?_ | refine SubH.cons 9 rfl ?_ | refine SubH.cons 10 rfl ?_ | refine SubH.cons 11 rfl ?_ | refine SubH.cons 12 rfl ?_ | refine SubH.cons 13 rfl ?_ | refine SubH.rown ?_))) ?_
  rintro m Δ L ⟨i, E, ⟨hm, hi10, hT⟩, rfl, rfl⟩
  simp only [List.cons_append, List.nil_append]
  refine wp_seq' ?_
  refine wp_seq' ?_
  refine wp_region' ?_
  refine ops_ro' rfl (ro_move rfl) rfl ?_
  refine ops_ro' rfl (ro_move rfl) rfl ?_
  refine ops_ro' rfl (ro_sliceLen Try.underlying41 rfl) rfl ?_
  refine ops_ro' rfl (ro_lss rfl rfl rfl) rfl ?_
  refine ops_split rfl rfl rfl (fun hg26 => ?_) (fun hg26 => ?_)
  · replace hg26 := of_decide_eq_true hg26
    have hi : i < az.length := by omega
    refine ops_know (fun w F s => vw_ptr (Vw.pick (H := [_, _, V]) 2 rfl hAV) s (by omega)) ?_
    rintro ⟨bb, o, rfl⟩
    have hok := has _ (List.getElem_mem hi)
    refine ops_ro' rfl (ro_move rfl) rfl ?_
    refine ops_ro' rfl (ro_lss rfl rfl rfl) rfl ?_
    refine ops_ro' rfl (ro_pick rfl rfl) rfl ?_
    refine ops_nil ?_
    refine Then_normal ?_
    refine wp_cond' rfl (fun hc29 => ?_) (fun hc29 => ?_)
    · replace hc29 := of_decide_eq_true hc29
      refine wp_skip' ?_
      refine Then_normal ?_
      refine wp_seq' ?_
      refine wp_block' ?_
      refine wp_draw 18 (by kernel_rfl) (Split.nil _) ?_
      refine any_dup 2 hdup rfl ?_
      refine any_ro' (i := 0) (by kernel_rfl) rfl rfl (ro_move rfl) rfl (fun _ _ _ h => h) ?_
      refine any_ro' (i := 1) (by kernel_rfl) rfl rfl (ro_move rfl) rfl (fun _ _ _ h => h) ?_
      refine any_ro' (i := 2) (by kernel_rfl) rfl rfl (ro_move rfl) rfl (fun _ _ _ h => h) ?_
      refine any_ro' (i := 3) (by kernel_rfl) rfl rfl (ro_indexSlice sl41 rfl rfl rfl (by omega)) rfl (fun _ _ _ h => h) ?_
      refine any_ro' (i := 4) (by kernel_rfl) rfl rfl (ro_fieldAddr fa44_1 rfl) rfl (fun _ _ _ h => h) ?_
      refine any_ro' (i := 5) (by kernel_rfl) rfl rfl (ro_load sc3 rfl (Rd.pick 0 rfl (aq_f (vw_rdn hAV) (List.getElem?_eq_getElem hi) 1 _ rfl))) rfl (fun _ _ _ h => h) ?_
      refine any_ro' (i := 6) (by kernel_rfl) rfl rfl (ro_move rfl) rfl (fun _ _ _ h => h) ?_
      refine any_ro' (i := 7) (by kernel_rfl) rfl rfl (ro_move rfl) rfl (fun _ _ _ h => h) ?_
      refine any_ro' (i := 8) (by kernel_rfl) rfl rfl (ro_indexSlice sl41 rfl rfl rfl (by omega)) rfl (fun _ _ _ h => h) ?_
      refine any_ro' (i := 9) (by kernel_rfl) rfl rfl (ro_fieldAddr fa44_2 rfl) rfl (fun _ _ _ h => h) ?_
      refine any_ro' (i := 10) (by kernel_rfl) rfl rfl (ro_load sc3 rfl (Rd.pick 0 rfl (aq_f (vw_rdn hAV) (List.getElem?_eq_getElem hi) 2 _ rfl))) rfl (fun _ _ _ h => h) ?_
      refine any_ro' (i := 11) (by kernel_rfl) rfl rfl (ro_move rfl) rfl (fun _ _ _ h => h) ?_
      refine any_ro' (i := 12) (by kernel_rfl) rfl rfl (ro_move rfl) rfl (fun _ _ _ h => h) ?_
      refine any_ro' (i := 13) (by kernel_rfl) rfl rfl (ro_indexSlice sl41 rfl rfl rfl (by omega)) rfl (fun _ _ _ h => h) ?_
      refine any_ro' (i := 14) (by kernel_rfl) rfl rfl (ro_fieldAddr fa44_3 rfl) rfl (fun _ _ _ h => h) ?_
      refine any_ro' (i := 15) (by kernel_rfl) rfl rfl (ro_loadA ag32 rfl (RdN.of_pick 0 rfl (aq_r (vw_rdn hAV) (List.getElem?_eq_getElem hi))) rfl) rfl (fun _ _ _ h => h) ?_
      refine any_eff' (i := 16) (by kernel_rfl) rfl rfl (eff_call Try.call20 rfl rfl (by repeat (first | exact Split.nil _ | apply Split.cons 0 rfl | apply Split.cons 1 rfl | apply Split.cons 2 rfl | apply Split.cons 3 rfl | apply Split.cons 4 rfl | apply Split.cons 5 rfl | apply Split.cons 6 rfl | apply Split.cons 7 rfl | apply Split.cons 8 rfl | apply Split.cons 9 rfl | apply Split.cons 10 rfl | apply Split.cons 11 rfl)) (short_spec V az[i].r hok.r.vw hok.r.cap hok.r.nl)) rfl ?_
      rintro _ H' ⟨_, ⟨_, ⟨r1, hr1, hc1, hcap1, rfl, rfl⟩, rfl⟩, hH⟩
      simp only [List.cons_append, List.nil_append, List.eraseIdx_cons_zero, List.eraseIdx_cons_succ, List.set_cons_zero, List.set_cons_succ] at hH
      subst hH
      have hsm : r1.c.Sm := by rw [hc1]; exact hok.r.short_sm
      refine any_eff' (i := 17) (by kernel_rfl) rfl rfl (eff_callM (Pre := [_, _]) Try.call16 rfl rfl (by repeat (first | exact Split.nil _ | apply Split.cons 0 rfl | apply Split.cons 1 rfl | apply Split.cons 2 rfl | apply Split.cons 3 rfl | apply Split.cons 4 rfl | apply Split.cons 5 rfl | apply Split.cons 6 rfl | apply Split.cons 7 rfl | apply Split.cons 8 rfl | apply Split.cons 9 rfl | apply Split.cons 10 rfl | apply Split.cons 11 rfl)) (done_of bt E hT az[i].client az[i].seq r1 _ ⟨(by first | exact (Vw.pick 0 rfl hr1.d) | exact (Vw.pick 1 rfl hr1.d) | exact (Vw.pick 2 rfl hr1.d) | exact (Vw.pick 3 rfl hr1.d) | exact (Vw.pick 4 rfl hr1.d) | exact (Vw.pick 5 rfl hr1.d) | exact (Vw.pick 6 rfl hr1.d) | exact (Vw.pick 7 rfl hr1.d) | exact (Vw.pick 8 rfl hr1.d) | exact (Vw.pick 9 rfl hr1.d) | exact (Vw.pick 10 rfl hr1.d) | exact (Vw.pick 11 rfl hr1.d) | exact (Vw.pick 0 rfl hr1.n) | exact (Vw.pick 1 rfl hr1.n) | exact (Vw.pick 2 rfl hr1.n) | exact (Vw.pick 3 rfl hr1.n) | exact (Vw.pick 4 rfl hr1.n) | exact (Vw.pick 5 rfl hr1.n) | exact (Vw.pick 6 rfl hr1.n) | exact (Vw.pick 7 rfl hr1.n) | exact (Vw.pick 8 rfl hr1.n) | exact (Vw.pick 9 rfl hr1.n) | exact (Vw.pick 10 rfl hr1.n) | exact (Vw.pick 11 rfl hr1.n) | exact (Vw.pick 0 rfl hV) | exact (Vw.pick 1 rfl hV) | exact (Vw.pick 2 rfl hV) | exact (Vw.pick 3 rfl hV) | exact (Vw.pick 4 rfl hV) | exact (Vw.pick 5 rfl hV) | exact (Vw.pick 6 rfl hV) | exact (Vw.pick 7 rfl hV) | exact (Vw.pick 8 rfl hV) | exact (Vw.pick 9 rfl hV) | exact (Vw.pick 10 rfl hV) | exact (Vw.pick 11 rfl hV) | exact Vw.pick 0 rfl Vw.row | exact Vw.pick 1 rfl Vw.row | exact Vw.pick 2 rfl Vw.row | exact Vw.pick 3 rfl Vw.row | exact Vw.pick 4 rfl Vw.row | exact Vw.pick 5 rfl Vw.row | exact Vw.pick 6 rfl Vw.row | exact Vw.pick 7 rfl Vw.row | exact Vw.pick 8 rfl Vw.row | exact Vw.pick 9 rfl Vw.row | exact Vw.pick 10 rfl Vw.row | exact Vw.pick 11 rfl Vw.row | exact Vw.nil _), (by first | exact (Vw.pick 0 rfl hr1.d) | exact (Vw.pick 1 rfl hr1.d) | exact (Vw.pick 2 rfl hr1.d) | exact (Vw.pick 3 rfl hr1.d) | exact (Vw.pick 4 rfl hr1.d) | exact (Vw.pick 5 rfl hr1.d) | exact (Vw.pick 6 rfl hr1.d) | exact (Vw.pick 7 rfl hr1.d) | exact (Vw.pick 8 rfl hr1.d) | exact (Vw.pick 9 rfl hr1.d) | exact (Vw.pick 10 rfl hr1.d) | exact (Vw.pick 11 rfl hr1.d) | exact (Vw.pick 0 rfl hr1.n) | exact (Vw.pick 1 rfl hr1.n) | exact (Vw.pick 2 rfl hr1.n) | exact (Vw.pick 3 rfl hr1.n) | exact (Vw.pick 4 rfl hr1.n) | exact (Vw.pick 5 rfl hr1.n) | exact (Vw.pick 6 rfl hr1.n) | exact (Vw.pick 7 rfl hr1.n) | exact (Vw.pick 8 rfl hr1.n) | exact (Vw.pick 9 rfl hr1.n) | exact (Vw.pick 10 rfl hr1.n) | exact (Vw.pick 11 rfl hr1.n) | exact (Vw.pick 0 rfl hV) | exact (Vw.pick 1 rfl hV) | exact (Vw.pick 2 rfl hV) | exact (Vw.pick 3 rfl hV) | exact (Vw.pick 4 rfl hV) | exact (Vw.pick 5 rfl hV) | exact (Vw.pick 6 rfl hV) | exact (Vw.pick 7 rfl hV) | exact (Vw.pick 8 rfl hV) | exact (Vw.pick 9 rfl hV) | exact (Vw.pick 10 rfl hV) | exact (Vw.pick 11 rfl hV) | exact Vw.pick 0 rfl Vw.row | exact Vw.pick 1 rfl Vw.row | exact Vw.pick 2 rfl Vw.row | exact Vw.pick 3 rfl Vw.row | exact Vw.pick 4 rfl Vw.row | exact Vw.pick 5 rfl Vw.row | exact Vw.pick 6 rfl Vw.row | exact Vw.pick 7 rfl Vw.row | exact Vw.pick 8 rfl Vw.row | exact Vw.pick 9 rfl Vw.row | exact Vw.pick 10 rfl Vw.row | exact Vw.pick 11 rfl Vw.row | exact Vw.nil _)⟩ hsm)) rfl ?_
      rintro _ H' ⟨_, ⟨d, E', hd, hT', rfl, rfl⟩, hH⟩
      simp only [List.cons_append, List.nil_append, List.eraseIdx_cons_zero, List.eraseIdx_cons_succ, List.set_cons_zero, List.set_cons_succ] at hH
      subst hH
      refine any_done (by kernel_rfl) ?_
      refine InBlock_normal ?_
      refine Then_normal ?_
      refine wp_region' ?_
      refine ops_ro' rfl (ro_move rfl) rfl ?_
      refine ops_ro' rfl (ro_add rfl rfl (wrap_inc (by omega))) rfl ?_
      refine ops_ro' rfl (ro_assign rfl) rfl ?_
      refine ops_nil ?_
      refine Then_normal ?_
      refine back (m - 1) (by omega) (kept ⟨i + 1, E', ⟨by omega, by omega, hT'⟩, rfl, rfl⟩ ?_ ?_ ?_)
      · exact (by repeat (first | exact Has.nil _ | refine Has.cons rfl ?_))
      · exact (by repeat (first | exact Has.nil _ | refine Has.cons rfl ?_))
      · exact (SubH.cons 1 rfl (SubH.cons 1 rfl (SubH.cons 0 rfl (SubH.nil _))))
    · replace hc29 := of_decide_eq_false hc29
      refine wp_exit' ?_
      refine Then_exit ?_
      refine Then_exit ?_
      refine InBlock_here ?_
      refine Then_normal ?_
      refine wp_seq' ?_
      refine wp_region' ?_
      refine ops_ro' rfl (ro_move rfl) rfl ?_
      refine ops_eff' rfl (eff_call Try.call47 rfl rfl (by repeat (first | exact Split.nil _ | apply Split.cons 0 rfl | apply Split.cons 1 rfl | apply Split.cons 2 rfl | apply Split.cons 3 rfl | apply Split.cons 4 rfl | apply Split.cons 5 rfl | apply Split.cons 6 rfl | apply Split.cons 7 rfl | apply Split.cons 8 rfl | apply Split.cons 9 rfl | apply Split.cons 10 rfl | apply Split.cons 11 rfl)) (save_spec bt E hT.len hT.ok (by have := hT.size; omega))) rfl ?_
      rintro _ H' ⟨_, ⟨ps, cs, rfl, rfl⟩, hH⟩
      simp only [List.cons_append, List.nil_append, List.eraseIdx_cons_zero, List.eraseIdx_cons_succ, List.set_cons_zero, List.set_cons_succ] at hH
      subst hH
      refine ops_ro' rfl (ro_assign rfl) rfl ?_
      refine ops_nil ?_
      refine Then_normal ?_
      refine wp_seq' ?_
      refine wp_region' ?_
      refine ops_ro' rfl (ro_move rfl) rfl ?_
      refine ops_eff' rfl (eff_call Try.call46 rfl rfl (by repeat (first | exact Split.nil _ | apply Split.cons 0 rfl | apply Split.cons 1 rfl | apply Split.cons 2 rfl | apply Split.cons 3 rfl | apply Split.cons 4 rfl | apply Split.cons 5 rfl | apply Split.cons 6 rfl | apply Split.cons 7 rfl | apply Split.cons 8 rfl | apply Split.cons 9 rfl | apply Split.cons 10 rfl | apply Split.cons 11 rfl)) (load_spec _ _ _ (tenc (E.map En.sc)) Vw.row (by have := hT.size; omega))) rfl ?_
      rintro _ H' ⟨_, ⟨K, hK, rfl⟩, hH⟩
      rcases hK with ⟨hn, _, _⟩ | ⟨xs, bu, Eu, hx, _, hEu, hmu, hou, hsu, rfl, rfl⟩
      · exact absurd (hT.loads.symm.trans hn) (by simp)
      have hmu2 : Eu.map En.sc = E.map En.sc := by rw [hmu]; exact (Option.some.inj (hT.loads.symm.trans hx)).symm
      have hTu := hT.of_map hmu2
      simp only [List.cons_append, List.nil_append, List.eraseIdx_cons_zero, List.eraseIdx_cons_succ, List.set_cons_zero, List.set_cons_succ] at hH
      subst hH
      refine ops_ro' rfl (ro_move rfl) rfl ?_
      refine ops_ro' rfl (ro_extract rfl rfl) rfl ?_
      refine ops_ro' rfl (ro_extract rfl rfl) rfl ?_
      refine ops_ro' rfl (ro_assign rfl) rfl ?_
      refine ops_ro' rfl (ro_assign rfl) rfl ?_
      refine ops_nil ?_
      refine Then_normal ?_
      refine wp_seq' ?_
      refine wp_seq' ?_
      refine wp_region' ?_
      refine ops_ro' rfl (ro_move rfl) rfl ?_
      refine ops_ro' rfl (ro_ptrEqlNil Try.underlying23 rfl rfl rfl) rfl ?_
      refine ops_ro' rfl (ro_move (v := .bool false) rfl) rfl ?_
      refine ops_ro' rfl (ro_move rfl) rfl ?_
      refine ops_ro' rfl (ro_neq rfl rfl (decide_eq_false (by omega))) rfl ?_
      refine ops_ro' rfl (ro_pick rfl rfl) rfl ?_
      refine ops_nil ?_
      refine Then_normal ?_
      refine wp_condF rfl ?_
      refine wp_skip' ?_
      refine Then_normal ?_
      refine wp_seq' ?_
      refine wp_region' ?_
      refine ops_ro' rfl (ro_move rfl) rfl ?_
      refine ops_eff' rfl (eff_call Try.call18 rfl rfl (by repeat (first | exact Split.nil _ | apply Split.cons 0 rfl | apply Split.cons 1 rfl | apply Split.cons 2 rfl | apply Split.cons 3 rfl | apply Split.cons 4 rfl | apply Split.cons 5 rfl | apply Split.cons 6 rfl | apply Split.cons 7 rfl | apply Split.cons 8 rfl | apply Split.cons 9 rfl | apply Split.cons 10 rfl | apply Split.cons 11 rfl)) (last_spec bt E hT.len 3)) rfl ?_
      rintro _ H' ⟨_, ⟨rfl, rfl⟩, hH⟩
      simp only [List.cons_append, List.nil_append, List.eraseIdx_cons_zero, List.eraseIdx_cons_succ, List.set_cons_zero, List.set_cons_succ] at hH
      subst hH
      refine ops_ro' rfl (ro_assign rfl) rfl ?_
      refine ops_nil ?_
      refine Then_normal ?_
      refine wp_seq' ?_
      refine wp_region' ?_
      refine ops_ro' rfl (ro_move rfl) rfl ?_
      refine ops_ro' rfl (ro_build rfl (bld_struct (cs := Rp.zero.cs) st32 rfl)) rfl ?_
      refine ops_eff' rfl (eff_callM (Pre := [_, _]) Try.call16 rfl rfl (by repeat (first | exact Split.nil _ | apply Split.cons 0 rfl | apply Split.cons 1 rfl | apply Split.cons 2 rfl | apply Split.cons 3 rfl | apply Split.cons 4 rfl | apply Split.cons 5 rfl | apply Split.cons 6 rfl | apply Split.cons 7 rfl | apply Split.cons 8 rfl | apply Split.cons 9 rfl | apply Split.cons 10 rfl | apply Split.cons 11 rfl)) (done_full bu Eu hTu _)) rfl ?_
      rintro _ H' ⟨_, ⟨Ev, hEv, hL3, rfl⟩, hH⟩
      simp only [List.cons_append, List.nil_append, List.eraseIdx_cons_zero, List.eraseIdx_cons_succ, List.set_cons_zero, List.set_cons_succ] at hH
      subst hH
      refine ops_nil ?_
      refine Then_normal ?_
      refine wp_seq' ?_
      refine wp_seq' ?_
      refine wp_region' ?_
      refine ops_ro' rfl (ro_move rfl) rfl ?_
      refine ops_eff' rfl (eff_call Try.call18 rfl rfl (by repeat (first | exact Split.nil _ | apply Split.cons 0 rfl | apply Split.cons 1 rfl | apply Split.cons 2 rfl | apply Split.cons 3 rfl | apply Split.cons 4 rfl | apply Split.cons 5 rfl | apply Split.cons 6 rfl | apply Split.cons 7 rfl | apply Split.cons 8 rfl | apply Split.cons 9 rfl | apply Split.cons 10 rfl | apply Split.cons 11 rfl)) (last_spec bt E hT.len 3)) rfl ?_
      rintro _ H' ⟨_, ⟨rfl, rfl⟩, hH⟩
      simp only [List.cons_append, List.nil_append, List.eraseIdx_cons_zero, List.eraseIdx_cons_succ, List.set_cons_zero, List.set_cons_succ] at hH
      subst hH
      refine ops_ro' rfl (ro_move rfl) rfl ?_
      refine ops_ro' rfl (ro_neq rfl rfl (decide_eq_false (by omega))) rfl ?_
      refine ops_ro' rfl (ro_move (v := .bool false) rfl) rfl ?_
      refine ops_ro' rfl (ro_move rfl) rfl ?_
      refine ops_eff' rfl (eff_call Try.call18 rfl rfl (by repeat (first | exact Split.nil _ | apply Split.cons 0 rfl | apply Split.cons 1 rfl | apply Split.cons 2 rfl | apply Split.cons 3 rfl | apply Split.cons 4 rfl | apply Split.cons 5 rfl | apply Split.cons 6 rfl | apply Split.cons 7 rfl | apply Split.cons 8 rfl | apply Split.cons 9 rfl | apply Split.cons 10 rfl | apply Split.cons 11 rfl)) (last_spec bu Ev hEv 3)) rfl ?_
      rintro _ H' ⟨_, ⟨rfl, rfl⟩, hH⟩
      simp only [List.cons_append, List.nil_append, List.eraseIdx_cons_zero, List.eraseIdx_cons_succ, List.set_cons_zero, List.set_cons_succ] at hH
      subst hH
      rw [hL3]
      refine ops_ro' rfl (ro_neq rfl rfl (decide_eq_false (by omega))) rfl ?_
      refine ops_ro' rfl (ro_pick rfl rfl) rfl ?_
      refine ops_nil ?_
      refine Then_normal ?_
      refine wp_condF rfl ?_
      refine wp_skip' ?_
      refine Then_normal ?_
      refine wp_cutK 1020 (fun Δ L => ∃ (sx : List UInt8), (sx.length = (tenc (E.map En.sc)).length) ∧ Δ = [] ∧ L = [row 5 1 (.slice ps (tenc (E.map En.sc)).length cs) (tenc (E.map En.sc)).length (cel sx), V]) (Has.cons (k := 0) rfl (Has.cons (k := 11) rfl (Has.nil _))) ?_ ?_
      · refine wp_seq' ?_
        refine wp_region' ?_
        refine ops_ro' rfl (ro_move rfl) rfl ?_
        refine ops_ro' rfl (ro_sliceLen Try.underlying25 rfl) rfl ?_
        refine ops_ro' rfl (ro_gtr rfl rfl rfl) rfl ?_
        refine ops_nil ?_
        refine Then_normal ?_
        refine wp_cond' rfl (fun hc79 => ?_) (fun hc79 => ?_)
        · replace hc79 := of_decide_eq_true hc79
          refine wp_cutK 1019 (fun Δ L => ∃ (a : Int), (0 ≤ a ∧ a ≤ 9223372036854775807) ∧ Δ = [(2, .int .i64 a)] ∧ L = [row 5 1 (.slice ps (tenc (E.map En.sc)).length cs) (tenc (E.map En.sc)).length (cel (tenc (E.map En.sc))), V]) (Has.cons (k := 0) rfl (Has.cons (k := 3) rfl (Has.cons (k := 11) rfl (Has.nil _)))) ?_ ?_
          · refine wp_seq' ?_
            refine wp_region' ?_
            refine ops_ro' rfl (ro_move rfl) rfl ?_
            refine ops_ro' rfl (ro_lss rfl rfl rfl) rfl ?_
            refine ops_nil ?_
            refine Then_normal ?_
            refine wp_cond' rfl (fun hc81 => ?_) (fun hc81 => ?_)
            · replace hc81 := of_decide_eq_true hc81
              refine wp_region' ?_
              refine ops_ro' rfl (ro_move rfl) rfl ?_
              refine ops_ro' rfl (ro_add rfl rfl (wrap_i64_in (by omega) (by omega))) rfl ?_
              refine ops_ro' rfl (ro_neg rfl (by first | exact wrap_i64_in (by omega) (by omega) | rfl)) rfl ?_
              refine ops_ro' rfl (ro_assign rfl) rfl ?_
              refine ops_nil ?_
              refine Then_normal ?_
              refine over_cut (kept ⟨0 - (at' + 1), (by refine ⟨?_, ?_⟩ <;> omega), rfl, rfl⟩ ?_ ?_ ?_)
              · exact (by repeat (first | exact Has.nil _ | refine Has.cons rfl ?_))
              · exact (by repeat (first | exact Has.nil _ | refine Has.cons rfl ?_))
              · exact (SubH.cons 3 rfl (SubH.cons 4 rfl (SubH.nil _)))
            · replace hc81 := of_decide_eq_false hc81
              refine wp_skip' ?_
              refine Then_normal ?_
              refine over_cut (kept ⟨at', (by refine ⟨?_, ?_⟩ <;> omega), rfl, rfl⟩ ?_ ?_ ?_)
              · exact (by repeat (first | exact Has.nil _ | refine Has.cons rfl ?_))
              · exact (by repeat (first | exact Has.nil _ | refine Has.cons rfl ?_))
              · exact (SubH.cons 3 rfl (SubH.cons 4 rfl (SubH.nil _)))
          · rintro Δ L ⟨a, ⟨ha, ha2⟩, rfl, rfl⟩
            simp only [List.cons_append, List.nil_append]
            obtain ⟨k, rfl⟩ := Int.eq_ofNat_of_zero_le ha
            have hk := Nat.mod_lt k (show 0 < (tenc (E.map En.sc)).length by omega)
            refine wp_know (fun w F s => row_ptr 0 rfl s (by omega)) ?_
            rintro ⟨bs, rfl⟩
            refine wp_draw 14 (by kernel_rfl) (Split.all _) ?_
            refine any_ro' (i := 0) (by kernel_rfl) rfl rfl (ro_move rfl) rfl (fun _ _ _ h => h) ?_
            refine any_ro' (i := 1) (by kernel_rfl) rfl rfl (ro_move rfl) rfl (fun _ _ _ h => h) ?_
            refine any_ro' (i := 2) (by kernel_rfl) rfl rfl (ro_move rfl) rfl (fun _ _ _ h => h) ?_
            refine any_ro' (i := 3) (by kernel_rfl) rfl rfl (ro_sliceLen Try.underlying25 rfl) rfl (fun _ _ _ h => h) ?_
            refine any_ro' (i := 4) (by kernel_rfl) rfl rfl (ro_rem rfl rfl (by omega) tmodN) rfl (fun _ _ _ h => h) ?_
            refine any_ro' (i := 5) (by kernel_rfl) rfl rfl (ro_move rfl) rfl (fun _ _ _ h => h) ?_
            refine any_ro' (i := 6) (by kernel_rfl) rfl rfl (ro_move rfl) rfl (fun _ _ _ h => h) ?_
            refine any_ro' (i := 7) (by kernel_rfl) rfl rfl (ro_move rfl) rfl (fun _ _ _ h => h) ?_
            refine any_ro' (i := 8) (by kernel_rfl) rfl rfl (ro_sliceLen Try.underlying25 rfl) rfl (fun _ _ _ h => h) ?_
            refine any_ro' (i := 9) (by kernel_rfl) rfl rfl (ro_rem rfl rfl (by omega) tmodN) rfl (fun _ _ _ h => h) ?_
            refine any_ro' (i := 10) (by kernel_rfl) rfl rfl (ro_indexSlice sl25 rfl rfl rfl (by omega)) rfl (fun _ _ _ h => h) ?_
            refine any_ro' (i := 11) (by kernel_rfl) rfl rfl (ro_load sc5 rfl (Rd.pick 0 rfl (Rd.row (by rw [Nat.zero_add, Nat.mul_one]; exact cel_get hk)))) rfl (fun _ _ _ h => h) ?_
            refine any_ro' (i := 12) (by kernel_rfl) rfl rfl (ro_move rfl) rfl (fun _ _ _ h => h) ?_
            refine any_ro' (i := 13) (by kernel_rfl) rfl rfl (ro_xor rfl rfl (xor8 _ _)) rfl (fun _ _ _ h => h) ?_
            refine any_unlock (m' := 16) (L' := []) (by kernel_rfl) unlock ?_
            simp only [List.cons_append, List.nil_append, List.append_nil]
            refine any_ro' (i := 14) (by kernel_rfl) rfl rfl (ro_indexSlice sl25 rfl rfl rfl (by omega)) rfl (fun _ _ _ h => h) ?_
            refine any_eff0 (i := 15) (by kernel_rfl) rfl rfl (eff_storeB 0 sc5 rfl rfl (Int.natCast_nonneg _) (by have := UInt8.toNat_lt ((tenc (E.map En.sc))[k % (tenc (E.map En.sc)).length] ^^^ turn); omega) rfl rfl hk) rfl ?_
            rintro _ _ rfl
            simp only [List.set_cons_zero]
            refine any_doneH (by kernel_rfl) ?_
            refine Then_normal ?_
            refine over_cut (kept ⟨(tenc (E.map En.sc)).set (k % (tenc (E.map En.sc)).length) (UInt8.ofNat ((((tenc (E.map En.sc))[k % (tenc (E.map En.sc)).length] ^^^ turn).toNat : Nat) : Int).toNat), (by rw [List.length_set]), rfl, rfl⟩ ?_ ?_ ?_)
            · exact (by repeat (first | exact Has.nil _ | refine Has.cons rfl ?_))
            · exact (by repeat (first | exact Has.nil _ | refine Has.cons rfl ?_))
            · exact SubH.refl _
        · replace hc79 := of_decide_eq_false hc79
          refine wp_skip' ?_
          refine Then_normal ?_
          refine over_cut (kept ⟨tenc (E.map En.sc), rfl, rfl, rfl⟩ ?_ ?_ ?_)
          · exact (by repeat (first | exact Has.nil _ | refine Has.cons rfl ?_))
          · exact (by repeat (first | exact Has.nil _ | refine Has.cons rfl ?_))
          · exact (SubH.cons 3 rfl (SubH.cons 4 rfl (SubH.nil _)))
      · rintro Δ L ⟨sx, hsx, rfl, rfl⟩
        simp only [List.cons_append, List.nil_append]
        refine wp_seq' ?_
        refine wp_seq' ?_
        rw [← hsx]
        refine wp_region' ?_
        refine ops_ro' rfl (ro_move rfl) rfl ?_
        refine ops_ro' rfl (ro_move rfl) rfl ?_
        refine ops_eff' rfl (eff_lit sl90 rfl (sbld (cs := [_, _]) [(.slice none 0 0), (.slice none 0 0)] sl90 (by decide) (by kernel_rfl) rfl) rfl (by decide)) rfl ?_
        rintro _ _ ⟨b102, rfl, rfl⟩
        refine ops_ro' rfl (ro_sliceLen Try.underlying90 rfl) rfl ?_
        refine ops_ro' rfl (ro_move rfl) rfl ?_
        refine ops_nil ?_
        refine Then_normal ?_
        refine wp_block' ?_
        refine wp_loopK 21 (fun m Δ L => ∃ (i : Nat), (i + m = 2) ∧ Δ = [(104, .int .i64 (i : Nat))] ∧ L = [row 25 1 (.slice (some ⟨b102, 0, none⟩) 2 2) 2 [.slice p b.length c, .slice ps sx.length cs], row 5 1 (.slice ps sx.length cs) sx.length (cel sx), V]) (m := 2) (Has.cons (k := 102) rfl (Has.cons (k := 103) rfl (Has.nil _))) (kept ⟨0, (by omega), rfl, rfl⟩ (by repeat (first | exact Has.nil _ | refine Has.cons rfl ?_)) (by repeat (first | exact Has.nil _ | refine Has.cons rfl ?_)) (by repeat (first | exact SubH.nil _ | refine SubH.cons 0 rfl ?_ | refine SubH.cons 1 rfl ?_ | refine SubH.cons 2 rfl ?_ | refine SubH.cons 3 rfl ?_ | refine SubH.cons 4 rfl ?_ | refine SubH.cons 5 rfl ?_ | refine SubH.cons 6 rfl ?_ | refine SubH.cons 7 rfl ?_ | refine SubH.cons 8 rfl ?_ | refine SubH.cons 9 rfl ?_ | refine SubH.cons 10 rfl ?_ | refine SubH.cons 11 rfl ?_ | refine SubH.cons 12 rfl ?_ | refine SubH.cons 13 rfl ?_ | refine SubH.rown ?_))) ?_
        rintro m Δ L ⟨i, hp21, rfl, rfl⟩
        simp only [List.cons_append, List.nil_append]
        refine wp_seq' ?_
        refine wp_region' ?_
        refine ops_ro' rfl (ro_lss rfl rfl rfl) rfl ?_
        refine ops_nil ?_
        refine Then_normal ?_
        refine wp_seq' ?_
        refine wp_cond' rfl (fun hc105 => ?_) (fun hc105 => ?_)
        · replace hc105 := of_decide_eq_true hc105
          obtain rfl | rfl : i = 0 ∨ i = 1 := by omega
          · refine wp_skip' ?_
            refine Then_normal ?_
            refine wp_seq' ?_
            refine wp_block' ?_
            refine wp_seq' ?_
            refine wp_region' ?_
            refine ops_ro' rfl (ro_indexSlice sl90 rfl rfl rfl (by omega)) rfl ?_
            refine ops_ro' rfl (ro_load sc25 rfl (Rd.pick 0 rfl (Rd.row rfl))) rfl ?_
            refine ops_ro' rfl (ro_assign rfl) rfl ?_
            refine ops_nil ?_
            refine Then_normal ?_
            refine wp_seq' ?_
            refine wp_region' ?_
            refine ops_ro' rfl (ro_move rfl) rfl ?_
            refine ops_eff' rfl (eff_callM (Pre := []) Try.call46 rfl rfl (Split.nil _) (load_spec _ _ _ _ (by first | exact (Vw.pick 0 rfl hr1.d) | exact (Vw.pick 1 rfl hr1.d) | exact (Vw.pick 2 rfl hr1.d) | exact (Vw.pick 3 rfl hr1.d) | exact (Vw.pick 4 rfl hr1.d) | exact (Vw.pick 5 rfl hr1.d) | exact (Vw.pick 6 rfl hr1.d) | exact (Vw.pick 7 rfl hr1.d) | exact (Vw.pick 8 rfl hr1.d) | exact (Vw.pick 9 rfl hr1.d) | exact (Vw.pick 10 rfl hr1.d) | exact (Vw.pick 11 rfl hr1.d) | exact (Vw.pick 0 rfl hr1.n) | exact (Vw.pick 1 rfl hr1.n) | exact (Vw.pick 2 rfl hr1.n) | exact (Vw.pick 3 rfl hr1.n) | exact (Vw.pick 4 rfl hr1.n) | exact (Vw.pick 5 rfl hr1.n) | exact (Vw.pick 6 rfl hr1.n) | exact (Vw.pick 7 rfl hr1.n) | exact (Vw.pick 8 rfl hr1.n) | exact (Vw.pick 9 rfl hr1.n) | exact (Vw.pick 10 rfl hr1.n) | exact (Vw.pick 11 rfl hr1.n) | exact (Vw.pick 0 rfl hV) | exact (Vw.pick 1 rfl hV) | exact (Vw.pick 2 rfl hV) | exact (Vw.pick 3 rfl hV) | exact (Vw.pick 4 rfl hV) | exact (Vw.pick 5 rfl hV) | exact (Vw.pick 6 rfl hV) | exact (Vw.pick 7 rfl hV) | exact (Vw.pick 8 rfl hV) | exact (Vw.pick 9 rfl hV) | exact (Vw.pick 10 rfl hV) | exact (Vw.pick 11 rfl hV) | exact Vw.pick 0 rfl Vw.row | exact Vw.pick 1 rfl Vw.row | exact Vw.pick 2 rfl Vw.row | exact Vw.pick 3 rfl Vw.row | exact Vw.pick 4 rfl Vw.row | exact Vw.pick 5 rfl Vw.row | exact Vw.pick 6 rfl Vw.row | exact Vw.pick 7 rfl Vw.row | exact Vw.pick 8 rfl Vw.row | exact Vw.pick 9 rfl Vw.row | exact Vw.pick 10 rfl Vw.row | exact Vw.pick 11 rfl Vw.row | exact Vw.nil _) (by first | exact hl | (have := hT.size; omega)))) rfl ?_
            rintro _ H' ⟨K, hK, hH⟩
            rcases hK with ⟨hn, rfl, rfl⟩ | ⟨xs2, b2, E2, hx2, _, _, _, _, _, rfl, rfl⟩
            all_goals
              simp only [List.cons_append, List.nil_append, List.eraseIdx_cons_zero, List.eraseIdx_cons_succ, List.set_cons_zero, List.set_cons_succ] at hH
              subst hH
            · refine ops_ro' rfl (ro_move rfl) rfl ?_
              refine ops_ro' rfl (ro_extract rfl rfl) rfl ?_
              refine ops_ro' rfl (ro_extract rfl rfl) rfl ?_
              refine ops_ro' rfl (ro_assign rfl) rfl ?_
              refine ops_ro' rfl (ro_assign rfl) rfl ?_
              refine ops_nil ?_
              refine Then_normal ?_
              refine wp_seq' ?_
              refine wp_region' ?_
              refine ops_ro' rfl (ro_move rfl) rfl ?_
              refine ops_ro' rfl (ro_ptrEqlNil Try.underlying23 rfl rfl rfl) rfl ?_
              refine ops_ro' rfl (ro_move rfl) rfl ?_
              refine ops_ro' rfl (ro_neq rfl rfl (decide_eq_true (by omega))) rfl ?_
              refine ops_ro' rfl (ro_neq_bool Try.underlying4 rfl rfl rfl) rfl ?_
              refine ops_ro' rfl (ro_move (v := .bool false) rfl) rfl ?_
              refine ops_ro' rfl (ro_move rfl) rfl ?_
              refine ops_ro' rfl (ro_neq rfl rfl (decide_eq_true (by omega))) rfl ?_
              refine ops_ro' rfl (ro_move (v := .bool true) rfl) rfl ?_
              refine ops_ro' rfl (ro_move rfl) rfl ?_
              refine ops_ro' rfl (ro_neq rfl rfl (decide_eq_false (by omega))) rfl ?_
              refine ops_ro' rfl (ro_pick rfl rfl) rfl ?_
              refine ops_ro' rfl (ro_pick rfl rfl) rfl ?_
              refine ops_nil ?_
              refine Then_normal ?_
              refine wp_condF rfl ?_
              refine wp_skip' ?_
              refine InBlock_normal ?_
              refine Then_normal ?_
              refine wp_region' ?_
              refine ops_ro' rfl (ro_add rfl rfl (wrap_inc (by omega))) rfl ?_
              refine ops_ro' rfl (ro_move rfl) rfl ?_
              refine ops_nil ?_
              refine Then_normal ?_
              refine back (1) (by omega) (kept ⟨1, (by omega), rfl, rfl⟩ ?_ ?_ ?_)
              · exact (by repeat (first | exact Has.nil _ | refine Has.cons rfl ?_))
              · exact (by repeat (first | exact Has.nil _ | refine Has.cons rfl ?_))
              · exact SubH.refl _
            · refine ops_ro' rfl (ro_move rfl) rfl ?_
              refine ops_ro' rfl (ro_extract rfl rfl) rfl ?_
              refine ops_ro' rfl (ro_extract rfl rfl) rfl ?_
              refine ops_ro' rfl (ro_assign rfl) rfl ?_
              refine ops_ro' rfl (ro_assign rfl) rfl ?_
              refine ops_nil ?_
              refine Then_normal ?_
              refine wp_seq' ?_
              refine wp_region' ?_
              refine ops_ro' rfl (ro_move rfl) rfl ?_
              refine ops_ro' rfl (ro_ptrEqlNil Try.underlying23 rfl rfl rfl) rfl ?_
              refine ops_ro' rfl (ro_move rfl) rfl ?_
              refine ops_ro' rfl (ro_neq rfl rfl (decide_eq_false (by omega))) rfl ?_
              refine ops_ro' rfl (ro_neq_bool Try.underlying4 rfl rfl rfl) rfl ?_
              refine ops_ro' rfl (ro_move (v := .bool false) rfl) rfl ?_
              refine ops_ro' rfl (ro_move rfl) rfl ?_
              refine ops_ro' rfl (ro_neq rfl rfl (decide_eq_false (by omega))) rfl ?_
              refine ops_ro' rfl (ro_move (v := .bool false) rfl) rfl ?_
              refine ops_skip' rfl rfl ?_
              refine ops_skip' rfl rfl ?_
              refine ops_ro' rfl (ro_pick rfl rfl) rfl ?_
              refine ops_ro' rfl (ro_pick rfl rfl) rfl ?_
              refine ops_nil ?_
              refine Then_normal ?_
              refine wp_condF rfl ?_
              refine wp_skip' ?_
              refine InBlock_normal ?_
              refine Then_normal ?_
              refine wp_region' ?_
              refine ops_ro' rfl (ro_add rfl rfl (wrap_inc (by omega))) rfl ?_
              refine ops_ro' rfl (ro_move rfl) rfl ?_
              refine ops_nil ?_
              refine Then_normal ?_
              refine back (1) (by omega) (kept ⟨1, (by omega), rfl, rfl⟩ ?_ ?_ ?_)
              · exact (by repeat (first | exact Has.nil _ | refine Has.cons rfl ?_))
              · exact (by repeat (first | exact Has.nil _ | refine Has.cons rfl ?_))
              · exact (SubH.cons 2 rfl (SubH.cons 2 rfl (SubH.cons 2 rfl (SubH.nil _))))
          · refine wp_skip' ?_
            refine Then_normal ?_
            refine wp_seq' ?_
            refine wp_block' ?_
            refine wp_seq' ?_
            refine wp_region' ?_
            refine ops_ro' rfl (ro_indexSlice sl90 rfl rfl rfl (by omega)) rfl ?_
            refine ops_ro' rfl (ro_load sc25 rfl (Rd.pick 0 rfl (Rd.row rfl))) rfl ?_
            refine ops_ro' rfl (ro_assign rfl) rfl ?_
            refine ops_nil ?_
            refine Then_normal ?_
            refine wp_seq' ?_
            refine wp_region' ?_
            refine ops_ro' rfl (ro_move rfl) rfl ?_
            refine ops_eff' rfl (eff_callM (Pre := []) Try.call46 rfl rfl (Split.nil _) (load_spec _ _ _ _ (by first | exact (Vw.pick 0 rfl hr1.d) | exact (Vw.pick 1 rfl hr1.d) | exact (Vw.pick 2 rfl hr1.d) | exact (Vw.pick 3 rfl hr1.d) | exact (Vw.pick 4 rfl hr1.d) | exact (Vw.pick 5 rfl hr1.d) | exact (Vw.pick 6 rfl hr1.d) | exact (Vw.pick 7 rfl hr1.d) | exact (Vw.pick 8 rfl hr1.d) | exact (Vw.pick 9 rfl hr1.d) | exact (Vw.pick 10 rfl hr1.d) | exact (Vw.pick 11 rfl hr1.d) | exact (Vw.pick 0 rfl hr1.n) | exact (Vw.pick 1 rfl hr1.n) | exact (Vw.pick 2 rfl hr1.n) | exact (Vw.pick 3 rfl hr1.n) | exact (Vw.pick 4 rfl hr1.n) | exact (Vw.pick 5 rfl hr1.n) | exact (Vw.pick 6 rfl hr1.n) | exact (Vw.pick 7 rfl hr1.n) | exact (Vw.pick 8 rfl hr1.n) | exact (Vw.pick 9 rfl hr1.n) | exact (Vw.pick 10 rfl hr1.n) | exact (Vw.pick 11 rfl hr1.n) | exact (Vw.pick 0 rfl hV) | exact (Vw.pick 1 rfl hV) | exact (Vw.pick 2 rfl hV) | exact (Vw.pick 3 rfl hV) | exact (Vw.pick 4 rfl hV) | exact (Vw.pick 5 rfl hV) | exact (Vw.pick 6 rfl hV) | exact (Vw.pick 7 rfl hV) | exact (Vw.pick 8 rfl hV) | exact (Vw.pick 9 rfl hV) | exact (Vw.pick 10 rfl hV) | exact (Vw.pick 11 rfl hV) | exact Vw.pick 0 rfl Vw.row | exact Vw.pick 1 rfl Vw.row | exact Vw.pick 2 rfl Vw.row | exact Vw.pick 3 rfl Vw.row | exact Vw.pick 4 rfl Vw.row | exact Vw.pick 5 rfl Vw.row | exact Vw.pick 6 rfl Vw.row | exact Vw.pick 7 rfl Vw.row | exact Vw.pick 8 rfl Vw.row | exact Vw.pick 9 rfl Vw.row | exact Vw.pick 10 rfl Vw.row | exact Vw.pick 11 rfl Vw.row | exact Vw.nil _) (by first | exact hl | (have := hT.size; omega)))) rfl ?_
            rintro _ H' ⟨K, hK, hH⟩
            rcases hK with ⟨hn, rfl, rfl⟩ | ⟨xs2, b2, E2, hx2, _, _, _, _, _, rfl, rfl⟩
            all_goals
              simp only [List.cons_append, List.nil_append, List.eraseIdx_cons_zero, List.eraseIdx_cons_succ, List.set_cons_zero, List.set_cons_succ] at hH
              subst hH
            · refine ops_ro' rfl (ro_move rfl) rfl ?_
              refine ops_ro' rfl (ro_extract rfl rfl) rfl ?_
              refine ops_ro' rfl (ro_extract rfl rfl) rfl ?_
              refine ops_ro' rfl (ro_assign rfl) rfl ?_
              refine ops_ro' rfl (ro_assign rfl) rfl ?_
              refine ops_nil ?_
              refine Then_normal ?_
              refine wp_seq' ?_
              refine wp_region' ?_
              refine ops_ro' rfl (ro_move rfl) rfl ?_
              refine ops_ro' rfl (ro_ptrEqlNil Try.underlying23 rfl rfl rfl) rfl ?_
              refine ops_ro' rfl (ro_move rfl) rfl ?_
              refine ops_ro' rfl (ro_neq rfl rfl (decide_eq_true (by omega))) rfl ?_
              refine ops_ro' rfl (ro_neq_bool Try.underlying4 rfl rfl rfl) rfl ?_
              refine ops_ro' rfl (ro_move (v := .bool false) rfl) rfl ?_
              refine ops_ro' rfl (ro_move rfl) rfl ?_
              refine ops_ro' rfl (ro_neq rfl rfl (decide_eq_true (by omega))) rfl ?_
              refine ops_ro' rfl (ro_move (v := .bool true) rfl) rfl ?_
              refine ops_ro' rfl (ro_move rfl) rfl ?_
              refine ops_ro' rfl (ro_neq rfl rfl (decide_eq_false (by omega))) rfl ?_
              refine ops_ro' rfl (ro_pick rfl rfl) rfl ?_
              refine ops_ro' rfl (ro_pick rfl rfl) rfl ?_
              refine ops_nil ?_
              refine Then_normal ?_
              refine wp_condF rfl ?_
              refine wp_skip' ?_
              refine InBlock_normal ?_
              refine Then_normal ?_
              refine wp_region' ?_
              refine ops_ro' rfl (ro_add rfl rfl (wrap_inc (by omega))) rfl ?_
              refine ops_ro' rfl (ro_move rfl) rfl ?_
              refine ops_nil ?_
              refine Then_normal ?_
              refine back (0) (by omega) (kept ⟨2, (by omega), rfl, rfl⟩ ?_ ?_ ?_)
              · exact (by repeat (first | exact Has.nil _ | refine Has.cons rfl ?_))
              · exact (by repeat (first | exact Has.nil _ | refine Has.cons rfl ?_))
              · exact SubH.refl _
            · refine ops_ro' rfl (ro_move rfl) rfl ?_
              refine ops_ro' rfl (ro_extract rfl rfl) rfl ?_
              refine ops_ro' rfl (ro_extract rfl rfl) rfl ?_
              refine ops_ro' rfl (ro_assign rfl) rfl ?_
              refine ops_ro' rfl (ro_assign rfl) rfl ?_
              refine ops_nil ?_
              refine Then_normal ?_
              refine wp_seq' ?_
              refine wp_region' ?_
              refine ops_ro' rfl (ro_move rfl) rfl ?_
              refine ops_ro' rfl (ro_ptrEqlNil Try.underlying23 rfl rfl rfl) rfl ?_
              refine ops_ro' rfl (ro_move rfl) rfl ?_
              refine ops_ro' rfl (ro_neq rfl rfl (decide_eq_false (by omega))) rfl ?_
              refine ops_ro' rfl (ro_neq_bool Try.underlying4 rfl rfl rfl) rfl ?_
              refine ops_ro' rfl (ro_move (v := .bool false) rfl) rfl ?_
              refine ops_ro' rfl (ro_move rfl) rfl ?_
              refine ops_ro' rfl (ro_neq rfl rfl (decide_eq_false (by omega))) rfl ?_
              refine ops_ro' rfl (ro_move (v := .bool false) rfl) rfl ?_
              refine ops_skip' rfl rfl ?_
              refine ops_skip' rfl rfl ?_
              refine ops_ro' rfl (ro_pick rfl rfl) rfl ?_
              refine ops_ro' rfl (ro_pick rfl rfl) rfl ?_
              refine ops_nil ?_
              refine Then_normal ?_
              refine wp_condF rfl ?_
              refine wp_skip' ?_
              refine InBlock_normal ?_
              refine Then_normal ?_
              refine wp_region' ?_
              refine ops_ro' rfl (ro_add rfl rfl (wrap_inc (by omega))) rfl ?_
              refine ops_ro' rfl (ro_move rfl) rfl ?_
              refine ops_nil ?_
              refine Then_normal ?_
              refine back (0) (by omega) (kept ⟨2, (by omega), rfl, rfl⟩ ?_ ?_ ?_)
              · exact (by repeat (first | exact Has.nil _ | refine Has.cons rfl ?_))
              · exact (by repeat (first | exact Has.nil _ | refine Has.cons rfl ?_))
              · exact (SubH.cons 2 rfl (SubH.cons 2 rfl (SubH.cons 2 rfl (SubH.nil _))))
        · replace hc105 := of_decide_eq_false hc105
          refine wp_exit' ?_
          refine Then_exit ?_
          refine Then_exit ?_
          refine InBlock_here ?_
          refine Then_normal ?_
          refine wp_seq' ?_
          refine wp_region' ?_
          refine ops_eff' rfl (eff_call Try.call19 rfl rfl (by repeat (first | exact Split.nil _ | apply Split.cons 0 rfl | apply Split.cons 1 rfl | apply Split.cons 2 rfl | apply Split.cons 3 rfl | apply Split.cons 4 rfl | apply Split.cons 5 rfl | apply Split.cons 6 rfl | apply Split.cons 7 rfl | apply Split.cons 8 rfl | apply Split.cons 9 rfl | apply Split.cons 10 rfl | apply Split.cons 11 rfl)) (known21_spec)) rfl ?_
          rintro _ H' ⟨_, ⟨rfl, rfl⟩, hH⟩
          simp only [List.cons_append, List.nil_append, List.eraseIdx_cons_zero, List.eraseIdx_cons_succ, List.set_cons_zero, List.set_cons_succ] at hH
          subst hH
          refine ops_ro' rfl (ro_assign rfl) rfl ?_
          refine ops_nil ?_
          refine Then_normal ?_
          refine wp_ret' ?_
          refine' doneS_ret (res1 rfl rfl) ?_ ?_
          rotate_left 1
          exact ⟨rfl, rfl⟩
          exact (SubH.cons 2 rfl (SubH.nil _))
  · replace hg26 := of_decide_eq_false hg26
    refine ops_skip' rfl rfl ?_
    refine ops_skip' rfl rfl ?_
    refine ops_ro' rfl (ro_pick rfl rfl) rfl ?_
    refine ops_nil ?_
    refine Then_normal ?_
    refine wp_condF rfl ?_
    refine wp_exit' ?_
    refine Then_exit ?_
    refine Then_exit ?_
    refine InBlock_here ?_
    refine Then_normal ?_
    refine wp_seq' ?_
    refine wp_region' ?_
    refine ops_ro' rfl (ro_move rfl) rfl ?_
    refine ops_eff' rfl (eff_call Try.call47 rfl rfl (by repeat (first | exact Split.nil _ | apply Split.cons 0 rfl | apply Split.cons 1 rfl | apply Split.cons 2 rfl | apply Split.cons 3 rfl | apply Split.cons 4 rfl | apply Split.cons 5 rfl | apply Split.cons 6 rfl | apply Split.cons 7 rfl | apply Split.cons 8 rfl | apply Split.cons 9 rfl | apply Split.cons 10 rfl | apply Split.cons 11 rfl)) (save_spec bt E hT.len hT.ok (by have := hT.size; omega))) rfl ?_
    rintro _ H' ⟨_, ⟨ps, cs, rfl, rfl⟩, hH⟩
    simp only [List.cons_append, List.nil_append, List.eraseIdx_cons_zero, List.eraseIdx_cons_succ, List.set_cons_zero, List.set_cons_succ] at hH
    subst hH
    refine ops_ro' rfl (ro_assign rfl) rfl ?_
    refine ops_nil ?_
    refine Then_normal ?_
    refine wp_seq' ?_
    refine wp_region' ?_
    refine ops_ro' rfl (ro_move rfl) rfl ?_
    refine ops_eff' rfl (eff_call Try.call46 rfl rfl (by repeat (first | exact Split.nil _ | apply Split.cons 0 rfl | apply Split.cons 1 rfl | apply Split.cons 2 rfl | apply Split.cons 3 rfl | apply Split.cons 4 rfl | apply Split.cons 5 rfl | apply Split.cons 6 rfl | apply Split.cons 7 rfl | apply Split.cons 8 rfl | apply Split.cons 9 rfl | apply Split.cons 10 rfl | apply Split.cons 11 rfl)) (load_spec _ _ _ (tenc (E.map En.sc)) Vw.row (by have := hT.size; omega))) rfl ?_
    rintro _ H' ⟨_, ⟨K, hK, rfl⟩, hH⟩
    rcases hK with ⟨hn, _, _⟩ | ⟨xs, bu, Eu, hx, _, hEu, hmu, hou, hsu, rfl, rfl⟩
    · exact absurd (hT.loads.symm.trans hn) (by simp)
    have hmu2 : Eu.map En.sc = E.map En.sc := by rw [hmu]; exact (Option.some.inj (hT.loads.symm.trans hx)).symm
    have hTu := hT.of_map hmu2
    simp only [List.cons_append, List.nil_append, List.eraseIdx_cons_zero, List.eraseIdx_cons_succ, List.set_cons_zero, List.set_cons_succ] at hH
    subst hH
    refine ops_ro' rfl (ro_move rfl) rfl ?_
    refine ops_ro' rfl (ro_extract rfl rfl) rfl ?_
    refine ops_ro' rfl (ro_extract rfl rfl) rfl ?_
    refine ops_ro' rfl (ro_assign rfl) rfl ?_
    refine ops_ro' rfl (ro_assign rfl) rfl ?_
    refine ops_nil ?_
    refine Then_normal ?_
    refine wp_seq' ?_
    refine wp_seq' ?_
    refine wp_region' ?_
    refine ops_ro' rfl (ro_move rfl) rfl ?_
    refine ops_ro' rfl (ro_ptrEqlNil Try.underlying23 rfl rfl rfl) rfl ?_
    refine ops_ro' rfl (ro_move (v := .bool false) rfl) rfl ?_
    refine ops_ro' rfl (ro_move rfl) rfl ?_
    refine ops_ro' rfl (ro_neq rfl rfl (decide_eq_false (by omega))) rfl ?_
    refine ops_ro' rfl (ro_pick rfl rfl) rfl ?_
    refine ops_nil ?_
    refine Then_normal ?_
    refine wp_condF rfl ?_
    refine wp_skip' ?_
    refine Then_normal ?_
    refine wp_seq' ?_
    refine wp_region' ?_
    refine ops_ro' rfl (ro_move rfl) rfl ?_
    refine ops_eff' rfl (eff_call Try.call18 rfl rfl (by repeat (first | exact Split.nil _ | apply Split.cons 0 rfl | apply Split.cons 1 rfl | apply Split.cons 2 rfl | apply Split.cons 3 rfl | apply Split.cons 4 rfl | apply Split.cons 5 rfl | apply Split.cons 6 rfl | apply Split.cons 7 rfl | apply Split.cons 8 rfl | apply Split.cons 9 rfl | apply Split.cons 10 rfl | apply Split.cons 11 rfl)) (last_spec bt E hT.len 3)) rfl ?_
    rintro _ H' ⟨_, ⟨rfl, rfl⟩, hH⟩
    simp only [List.cons_append, List.nil_append, List.eraseIdx_cons_zero, List.eraseIdx_cons_succ, List.set_cons_zero, List.set_cons_succ] at hH
    subst hH
    refine ops_ro' rfl (ro_assign rfl) rfl ?_
    refine ops_nil ?_
    refine Then_normal ?_
    refine wp_seq' ?_
    refine wp_region' ?_
    refine ops_ro' rfl (ro_move rfl) rfl ?_
    refine ops_ro' rfl (ro_build rfl (bld_struct (cs := Rp.zero.cs) st32 rfl)) rfl ?_
    refine ops_eff' rfl (eff_callM (Pre := [_, _]) Try.call16 rfl rfl (by repeat (first | exact Split.nil _ | apply Split.cons 0 rfl | apply Split.cons 1 rfl | apply Split.cons 2 rfl | apply Split.cons 3 rfl | apply Split.cons 4 rfl | apply Split.cons 5 rfl | apply Split.cons 6 rfl | apply Split.cons 7 rfl | apply Split.cons 8 rfl | apply Split.cons 9 rfl | apply Split.cons 10 rfl | apply Split.cons 11 rfl)) (done_full bu Eu hTu _)) rfl ?_
    rintro _ H' ⟨_, ⟨Ev, hEv, hL3, rfl⟩, hH⟩
    simp only [List.cons_append, List.nil_append, List.eraseIdx_cons_zero, List.eraseIdx_cons_succ, List.set_cons_zero, List.set_cons_succ] at hH
    subst hH
    refine ops_nil ?_
    refine Then_normal ?_
    refine wp_seq' ?_
    refine wp_seq' ?_
    refine wp_region' ?_
    refine ops_ro' rfl (ro_move rfl) rfl ?_
    refine ops_eff' rfl (eff_call Try.call18 rfl rfl (by repeat (first | exact Split.nil _ | apply Split.cons 0 rfl | apply Split.cons 1 rfl | apply Split.cons 2 rfl | apply Split.cons 3 rfl | apply Split.cons 4 rfl | apply Split.cons 5 rfl | apply Split.cons 6 rfl | apply Split.cons 7 rfl | apply Split.cons 8 rfl | apply Split.cons 9 rfl | apply Split.cons 10 rfl | apply Split.cons 11 rfl)) (last_spec bt E hT.len 3)) rfl ?_
    rintro _ H' ⟨_, ⟨rfl, rfl⟩, hH⟩
    simp only [List.cons_append, List.nil_append, List.eraseIdx_cons_zero, List.eraseIdx_cons_succ, List.set_cons_zero, List.set_cons_succ] at hH
    subst hH
    refine ops_ro' rfl (ro_move rfl) rfl ?_
    refine ops_ro' rfl (ro_neq rfl rfl (decide_eq_false (by omega))) rfl ?_
    refine ops_ro' rfl (ro_move (v := .bool false) rfl) rfl ?_
    refine ops_ro' rfl (ro_move rfl) rfl ?_
    refine ops_eff' rfl (eff_call Try.call18 rfl rfl (by repeat (first | exact Split.nil _ | apply Split.cons 0 rfl | apply Split.cons 1 rfl | apply Split.cons 2 rfl | apply Split.cons 3 rfl | apply Split.cons 4 rfl | apply Split.cons 5 rfl | apply Split.cons 6 rfl | apply Split.cons 7 rfl | apply Split.cons 8 rfl | apply Split.cons 9 rfl | apply Split.cons 10 rfl | apply Split.cons 11 rfl)) (last_spec bu Ev hEv 3)) rfl ?_
    rintro _ H' ⟨_, ⟨rfl, rfl⟩, hH⟩
    simp only [List.cons_append, List.nil_append, List.eraseIdx_cons_zero, List.eraseIdx_cons_succ, List.set_cons_zero, List.set_cons_succ] at hH
    subst hH
    rw [hL3]
    refine ops_ro' rfl (ro_neq rfl rfl (decide_eq_false (by omega))) rfl ?_
    refine ops_ro' rfl (ro_pick rfl rfl) rfl ?_
    refine ops_nil ?_
    refine Then_normal ?_
    refine wp_condF rfl ?_
    refine wp_skip' ?_
    refine Then_normal ?_
    refine wp_cutK 1020 (fun Δ L => ∃ (sx : List UInt8), (sx.length = (tenc (E.map En.sc)).length) ∧ Δ = [] ∧ L = [row 5 1 (.slice ps (tenc (E.map En.sc)).length cs) (tenc (E.map En.sc)).length (cel sx), V]) (Has.cons (k := 0) rfl (Has.cons (k := 11) rfl (Has.nil _))) ?_ ?_
    · refine wp_seq' ?_
      refine wp_region' ?_
      refine ops_ro' rfl (ro_move rfl) rfl ?_
      refine ops_ro' rfl (ro_sliceLen Try.underlying25 rfl) rfl ?_
      refine ops_ro' rfl (ro_gtr rfl rfl rfl) rfl ?_
      refine ops_nil ?_
      refine Then_normal ?_
      refine wp_cond' rfl (fun hc79 => ?_) (fun hc79 => ?_)
      · replace hc79 := of_decide_eq_true hc79
        refine wp_cutK 1019 (fun Δ L => ∃ (a : Int), (0 ≤ a ∧ a ≤ 9223372036854775807) ∧ Δ = [(2, .int .i64 a)] ∧ L = [row 5 1 (.slice ps (tenc (E.map En.sc)).length cs) (tenc (E.map En.sc)).length (cel (tenc (E.map En.sc))), V]) (Has.cons (k := 0) rfl (Has.cons (k := 3) rfl (Has.cons (k := 11) rfl (Has.nil _)))) ?_ ?_
        · refine wp_seq' ?_
          refine wp_region' ?_
          refine ops_ro' rfl (ro_move rfl) rfl ?_
          refine ops_ro' rfl (ro_lss rfl rfl rfl) rfl ?_
          refine ops_nil ?_
          refine Then_normal ?_
          refine wp_cond' rfl (fun hc81 => ?_) (fun hc81 => ?_)
          · replace hc81 := of_decide_eq_true hc81
            refine wp_region' ?_
            refine ops_ro' rfl (ro_move rfl) rfl ?_
            refine ops_ro' rfl (ro_add rfl rfl (wrap_i64_in (by omega) (by omega))) rfl ?_
            refine ops_ro' rfl (ro_neg rfl (by first | exact wrap_i64_in (by omega) (by omega) | rfl)) rfl ?_
            refine ops_ro' rfl (ro_assign rfl) rfl ?_
            refine ops_nil ?_
            refine Then_normal ?_
            refine over_cut (kept ⟨0 - (at' + 1), (by refine ⟨?_, ?_⟩ <;> omega), rfl, rfl⟩ ?_ ?_ ?_)
            · exact (by repeat (first | exact Has.nil _ | refine Has.cons rfl ?_))
            · exact (by repeat (first | exact Has.nil _ | refine Has.cons rfl ?_))
            · exact (SubH.cons 3 rfl (SubH.cons 4 rfl (SubH.nil _)))
          · replace hc81 := of_decide_eq_false hc81
            refine wp_skip' ?_
            refine Then_normal ?_
            refine over_cut (kept ⟨at', (by refine ⟨?_, ?_⟩ <;> omega), rfl, rfl⟩ ?_ ?_ ?_)
            · exact (by repeat (first | exact Has.nil _ | refine Has.cons rfl ?_))
            · exact (by repeat (first | exact Has.nil _ | refine Has.cons rfl ?_))
            · exact (SubH.cons 3 rfl (SubH.cons 4 rfl (SubH.nil _)))
        · rintro Δ L ⟨a, ⟨ha, ha2⟩, rfl, rfl⟩
          simp only [List.cons_append, List.nil_append]
          obtain ⟨k, rfl⟩ := Int.eq_ofNat_of_zero_le ha
          have hk := Nat.mod_lt k (show 0 < (tenc (E.map En.sc)).length by omega)
          refine wp_know (fun w F s => row_ptr 0 rfl s (by omega)) ?_
          rintro ⟨bs, rfl⟩
          refine wp_draw 14 (by kernel_rfl) (Split.all _) ?_
          refine any_ro' (i := 0) (by kernel_rfl) rfl rfl (ro_move rfl) rfl (fun _ _ _ h => h) ?_
          refine any_ro' (i := 1) (by kernel_rfl) rfl rfl (ro_move rfl) rfl (fun _ _ _ h => h) ?_
          refine any_ro' (i := 2) (by kernel_rfl) rfl rfl (ro_move rfl) rfl (fun _ _ _ h => h) ?_
          refine any_ro' (i := 3) (by kernel_rfl) rfl rfl (ro_sliceLen Try.underlying25 rfl) rfl (fun _ _ _ h => h) ?_
          refine any_ro' (i := 4) (by kernel_rfl) rfl rfl (ro_rem rfl rfl (by omega) tmodN) rfl (fun _ _ _ h => h) ?_
          refine any_ro' (i := 5) (by kernel_rfl) rfl rfl (ro_move rfl) rfl (fun _ _ _ h => h) ?_
          refine any_ro' (i := 6) (by kernel_rfl) rfl rfl (ro_move rfl) rfl (fun _ _ _ h => h) ?_
          refine any_ro' (i := 7) (by kernel_rfl) rfl rfl (ro_move rfl) rfl (fun _ _ _ h => h) ?_
          refine any_ro' (i := 8) (by kernel_rfl) rfl rfl (ro_sliceLen Try.underlying25 rfl) rfl (fun _ _ _ h => h) ?_
          refine any_ro' (i := 9) (by kernel_rfl) rfl rfl (ro_rem rfl rfl (by omega) tmodN) rfl (fun _ _ _ h => h) ?_
          refine any_ro' (i := 10) (by kernel_rfl) rfl rfl (ro_indexSlice sl25 rfl rfl rfl (by omega)) rfl (fun _ _ _ h => h) ?_
          refine any_ro' (i := 11) (by kernel_rfl) rfl rfl (ro_load sc5 rfl (Rd.pick 0 rfl (Rd.row (by rw [Nat.zero_add, Nat.mul_one]; exact cel_get hk)))) rfl (fun _ _ _ h => h) ?_
          refine any_ro' (i := 12) (by kernel_rfl) rfl rfl (ro_move rfl) rfl (fun _ _ _ h => h) ?_
          refine any_ro' (i := 13) (by kernel_rfl) rfl rfl (ro_xor rfl rfl (xor8 _ _)) rfl (fun _ _ _ h => h) ?_
          refine any_unlock (m' := 16) (L' := []) (by kernel_rfl) unlock ?_
          simp only [List.cons_append, List.nil_append, List.append_nil]
          refine any_ro' (i := 14) (by kernel_rfl) rfl rfl (ro_indexSlice sl25 rfl rfl rfl (by omega)) rfl (fun _ _ _ h => h) ?_
          refine any_eff0 (i := 15) (by kernel_rfl) rfl rfl (eff_storeB 0 sc5 rfl rfl (Int.natCast_nonneg _) (by have := UInt8.toNat_lt ((tenc (E.map En.sc))[k % (tenc (E.map En.sc)).length] ^^^ turn); omega) rfl rfl hk) rfl ?_
          rintro _ _ rfl
          simp only [List.set_cons_zero]
          refine any_doneH (by kernel_rfl) ?_
          refine Then_normal ?_
          refine over_cut (kept ⟨(tenc (E.map En.sc)).set (k % (tenc (E.map En.sc)).length) (UInt8.ofNat ((((tenc (E.map En.sc))[k % (tenc (E.map En.sc)).length] ^^^ turn).toNat : Nat) : Int).toNat), (by rw [List.length_set]), rfl, rfl⟩ ?_ ?_ ?_)
          · exact (by repeat (first | exact Has.nil _ | refine Has.cons rfl ?_))
          · exact (by repeat (first | exact Has.nil _ | refine Has.cons rfl ?_))
          · exact SubH.refl _
      · replace hc79 := of_decide_eq_false hc79
        refine wp_skip' ?_
        refine Then_normal ?_
        refine over_cut (kept ⟨tenc (E.map En.sc), rfl, rfl, rfl⟩ ?_ ?_ ?_)
        · exact (by repeat (first | exact Has.nil _ | refine Has.cons rfl ?_))
        · exact (by repeat (first | exact Has.nil _ | refine Has.cons rfl ?_))
        · exact (SubH.cons 3 rfl (SubH.cons 4 rfl (SubH.nil _)))
    · rintro Δ L ⟨sx, hsx, rfl, rfl⟩
      simp only [List.cons_append, List.nil_append]
      refine wp_seq' ?_
      refine wp_seq' ?_
      rw [← hsx]
      refine wp_region' ?_
      refine ops_ro' rfl (ro_move rfl) rfl ?_
      refine ops_ro' rfl (ro_move rfl) rfl ?_
      refine ops_eff' rfl (eff_lit sl90 rfl (sbld (cs := [_, _]) [(.slice none 0 0), (.slice none 0 0)] sl90 (by decide) (by kernel_rfl) rfl) rfl (by decide)) rfl ?_
      rintro _ _ ⟨b102, rfl, rfl⟩
      refine ops_ro' rfl (ro_sliceLen Try.underlying90 rfl) rfl ?_
      refine ops_ro' rfl (ro_move rfl) rfl ?_
      refine ops_nil ?_
      refine Then_normal ?_
      refine wp_block' ?_
      refine wp_loopK 21 (fun m Δ L => ∃ (i : Nat), (i + m = 2) ∧ Δ = [(104, .int .i64 (i : Nat))] ∧ L = [row 25 1 (.slice (some ⟨b102, 0, none⟩) 2 2) 2 [.slice p b.length c, .slice ps sx.length cs], row 5 1 (.slice ps sx.length cs) sx.length (cel sx), V]) (m := 2) (Has.cons (k := 102) rfl (Has.cons (k := 103) rfl (Has.nil _))) (kept ⟨0, (by omega), rfl, rfl⟩ (by repeat (first | exact Has.nil _ | refine Has.cons rfl ?_)) (by repeat (first | exact Has.nil _ | refine Has.cons rfl ?_)) (by repeat (first | exact SubH.nil _ | refine SubH.cons 0 rfl ?_ | refine SubH.cons 1 rfl ?_ | refine SubH.cons 2 rfl ?_ | refine SubH.cons 3 rfl ?_ | refine SubH.cons 4 rfl ?_ | refine SubH.cons 5 rfl ?_ | refine SubH.cons 6 rfl ?_ | refine SubH.cons 7 rfl ?_ | refine SubH.cons 8 rfl ?_ | refine SubH.cons 9 rfl ?_ | refine SubH.cons 10 rfl ?_ | refine SubH.cons 11 rfl ?_ | refine SubH.cons 12 rfl ?_ | refine SubH.cons 13 rfl ?_ | refine SubH.rown ?_))) ?_
      rintro m Δ L ⟨i, hp21, rfl, rfl⟩
      simp only [List.cons_append, List.nil_append]
      refine wp_seq' ?_
      refine wp_region' ?_
      refine ops_ro' rfl (ro_lss rfl rfl rfl) rfl ?_
      refine ops_nil ?_
      refine Then_normal ?_
      refine wp_seq' ?_
      refine wp_cond' rfl (fun hc105 => ?_) (fun hc105 => ?_)
      · replace hc105 := of_decide_eq_true hc105
        obtain rfl | rfl : i = 0 ∨ i = 1 := by omega
        · refine wp_skip' ?_
          refine Then_normal ?_
          refine wp_seq' ?_
          refine wp_block' ?_
          refine wp_seq' ?_
          refine wp_region' ?_
          refine ops_ro' rfl (ro_indexSlice sl90 rfl rfl rfl (by omega)) rfl ?_
          refine ops_ro' rfl (ro_load sc25 rfl (Rd.pick 0 rfl (Rd.row rfl))) rfl ?_
          refine ops_ro' rfl (ro_assign rfl) rfl ?_
          refine ops_nil ?_
          refine Then_normal ?_
          refine wp_seq' ?_
          refine wp_region' ?_
          refine ops_ro' rfl (ro_move rfl) rfl ?_
          refine ops_eff' rfl (eff_callM (Pre := []) Try.call46 rfl rfl (Split.nil _) (load_spec _ _ _ _ (by first | exact (Vw.pick 0 rfl hr1.d) | exact (Vw.pick 1 rfl hr1.d) | exact (Vw.pick 2 rfl hr1.d) | exact (Vw.pick 3 rfl hr1.d) | exact (Vw.pick 4 rfl hr1.d) | exact (Vw.pick 5 rfl hr1.d) | exact (Vw.pick 6 rfl hr1.d) | exact (Vw.pick 7 rfl hr1.d) | exact (Vw.pick 8 rfl hr1.d) | exact (Vw.pick 9 rfl hr1.d) | exact (Vw.pick 10 rfl hr1.d) | exact (Vw.pick 11 rfl hr1.d) | exact (Vw.pick 0 rfl hr1.n) | exact (Vw.pick 1 rfl hr1.n) | exact (Vw.pick 2 rfl hr1.n) | exact (Vw.pick 3 rfl hr1.n) | exact (Vw.pick 4 rfl hr1.n) | exact (Vw.pick 5 rfl hr1.n) | exact (Vw.pick 6 rfl hr1.n) | exact (Vw.pick 7 rfl hr1.n) | exact (Vw.pick 8 rfl hr1.n) | exact (Vw.pick 9 rfl hr1.n) | exact (Vw.pick 10 rfl hr1.n) | exact (Vw.pick 11 rfl hr1.n) | exact (Vw.pick 0 rfl hV) | exact (Vw.pick 1 rfl hV) | exact (Vw.pick 2 rfl hV) | exact (Vw.pick 3 rfl hV) | exact (Vw.pick 4 rfl hV) | exact (Vw.pick 5 rfl hV) | exact (Vw.pick 6 rfl hV) | exact (Vw.pick 7 rfl hV) | exact (Vw.pick 8 rfl hV) | exact (Vw.pick 9 rfl hV) | exact (Vw.pick 10 rfl hV) | exact (Vw.pick 11 rfl hV) | exact Vw.pick 0 rfl Vw.row | exact Vw.pick 1 rfl Vw.row | exact Vw.pick 2 rfl Vw.row | exact Vw.pick 3 rfl Vw.row | exact Vw.pick 4 rfl Vw.row | exact Vw.pick 5 rfl Vw.row | exact Vw.pick 6 rfl Vw.row | exact Vw.pick 7 rfl Vw.row | exact Vw.pick 8 rfl Vw.row | exact Vw.pick 9 rfl Vw.row | exact Vw.pick 10 rfl Vw.row | exact Vw.pick 11 rfl Vw.row | exact Vw.nil _) (by first | exact hl | (have := hT.size; omega)))) rfl ?_
          rintro _ H' ⟨K, hK, hH⟩
          rcases hK with ⟨hn, rfl, rfl⟩ | ⟨xs2, b2, E2, hx2, _, _, _, _, _, rfl, rfl⟩
          all_goals
            simp only [List.cons_append, List.nil_append, List.eraseIdx_cons_zero, List.eraseIdx_cons_succ, List.set_cons_zero, List.set_cons_succ] at hH
            subst hH
          · refine ops_ro' rfl (ro_move rfl) rfl ?_
            refine ops_ro' rfl (ro_extract rfl rfl) rfl ?_
            refine ops_ro' rfl (ro_extract rfl rfl) rfl ?_
            refine ops_ro' rfl (ro_assign rfl) rfl ?_
            refine ops_ro' rfl (ro_assign rfl) rfl ?_
            refine ops_nil ?_
            refine Then_normal ?_
            refine wp_seq' ?_
            refine wp_region' ?_
            refine ops_ro' rfl (ro_move rfl) rfl ?_
            refine ops_ro' rfl (ro_ptrEqlNil Try.underlying23 rfl rfl rfl) rfl ?_
            refine ops_ro' rfl (ro_move rfl) rfl ?_
            refine ops_ro' rfl (ro_neq rfl rfl (decide_eq_true (by omega))) rfl ?_
            refine ops_ro' rfl (ro_neq_bool Try.underlying4 rfl rfl rfl) rfl ?_
            refine ops_ro' rfl (ro_move (v := .bool false) rfl) rfl ?_
            refine ops_ro' rfl (ro_move rfl) rfl ?_
            refine ops_ro' rfl (ro_neq rfl rfl (decide_eq_true (by omega))) rfl ?_
            refine ops_ro' rfl (ro_move (v := .bool true) rfl) rfl ?_
            refine ops_ro' rfl (ro_move rfl) rfl ?_
            refine ops_ro' rfl (ro_neq rfl rfl (decide_eq_false (by omega))) rfl ?_
            refine ops_ro' rfl (ro_pick rfl rfl) rfl ?_
            refine ops_ro' rfl (ro_pick rfl rfl) rfl ?_
            refine ops_nil ?_
            refine Then_normal ?_
            refine wp_condF rfl ?_
            refine wp_skip' ?_
            refine InBlock_normal ?_
            refine Then_normal ?_
            refine wp_region' ?_
            refine ops_ro' rfl (ro_add rfl rfl (wrap_inc (by omega))) rfl ?_
            refine ops_ro' rfl (ro_move rfl) rfl ?_
            refine ops_nil ?_
            refine Then_normal ?_
            refine back (1) (by omega) (kept ⟨1, (by omega), rfl, rfl⟩ ?_ ?_ ?_)
            · exact (by repeat (first | exact Has.nil _ | refine Has.cons rfl ?_))
            · exact (by repeat (first | exact Has.nil _ | refine Has.cons rfl ?_))
            · exact SubH.refl _
          · refine ops_ro' rfl (ro_move rfl) rfl ?_
            refine ops_ro' rfl (ro_extract rfl rfl) rfl ?_
            refine ops_ro' rfl (ro_extract rfl rfl) rfl ?_
            refine ops_ro' rfl (ro_assign rfl) rfl ?_
            refine ops_ro' rfl (ro_assign rfl) rfl ?_
            refine ops_nil ?_
            refine Then_normal ?_
            refine wp_seq' ?_
            refine wp_region' ?_
            refine ops_ro' rfl (ro_move rfl) rfl ?_
            refine ops_ro' rfl (ro_ptrEqlNil Try.underlying23 rfl rfl rfl) rfl ?_
            refine ops_ro' rfl (ro_move rfl) rfl ?_
            refine ops_ro' rfl (ro_neq rfl rfl (decide_eq_false (by omega))) rfl ?_
            refine ops_ro' rfl (ro_neq_bool Try.underlying4 rfl rfl rfl) rfl ?_
            refine ops_ro' rfl (ro_move (v := .bool false) rfl) rfl ?_
            refine ops_ro' rfl (ro_move rfl) rfl ?_
            refine ops_ro' rfl (ro_neq rfl rfl (decide_eq_false (by omega))) rfl ?_
            refine ops_ro' rfl (ro_move (v := .bool false) rfl) rfl ?_
            refine ops_skip' rfl rfl ?_
            refine ops_skip' rfl rfl ?_
            refine ops_ro' rfl (ro_pick rfl rfl) rfl ?_
            refine ops_ro' rfl (ro_pick rfl rfl) rfl ?_
            refine ops_nil ?_
            refine Then_normal ?_
            refine wp_condF rfl ?_
            refine wp_skip' ?_
            refine InBlock_normal ?_
            refine Then_normal ?_
            refine wp_region' ?_
            refine ops_ro' rfl (ro_add rfl rfl (wrap_inc (by omega))) rfl ?_
            refine ops_ro' rfl (ro_move rfl) rfl ?_
            refine ops_nil ?_
            refine Then_normal ?_
            refine back (1) (by omega) (kept ⟨1, (by omega), rfl, rfl⟩ ?_ ?_ ?_)
            · exact (by repeat (first | exact Has.nil _ | refine Has.cons rfl ?_))
            · exact (by repeat (first | exact Has.nil _ | refine Has.cons rfl ?_))
            · exact (SubH.cons 2 rfl (SubH.cons 2 rfl (SubH.cons 2 rfl (SubH.nil _))))
        · refine wp_skip' ?_
          refine Then_normal ?_
          refine wp_seq' ?_
          refine wp_block' ?_
          refine wp_seq' ?_
          refine wp_region' ?_
          refine ops_ro' rfl (ro_indexSlice sl90 rfl rfl rfl (by omega)) rfl ?_
          refine ops_ro' rfl (ro_load sc25 rfl (Rd.pick 0 rfl (Rd.row rfl))) rfl ?_
          refine ops_ro' rfl (ro_assign rfl) rfl ?_
          refine ops_nil ?_
          refine Then_normal ?_
          refine wp_seq' ?_
          refine wp_region' ?_
          refine ops_ro' rfl (ro_move rfl) rfl ?_
          refine ops_eff' rfl (eff_callM (Pre := []) Try.call46 rfl rfl (Split.nil _) (load_spec _ _ _ _ (by first | exact (Vw.pick 0 rfl hr1.d) | exact (Vw.pick 1 rfl hr1.d) | exact (Vw.pick 2 rfl hr1.d) | exact (Vw.pick 3 rfl hr1.d) | exact (Vw.pick 4 rfl hr1.d) | exact (Vw.pick 5 rfl hr1.d) | exact (Vw.pick 6 rfl hr1.d) | exact (Vw.pick 7 rfl hr1.d) | exact (Vw.pick 8 rfl hr1.d) | exact (Vw.pick 9 rfl hr1.d) | exact (Vw.pick 10 rfl hr1.d) | exact (Vw.pick 11 rfl hr1.d) | exact (Vw.pick 0 rfl hr1.n) | exact (Vw.pick 1 rfl hr1.n) | exact (Vw.pick 2 rfl hr1.n) | exact (Vw.pick 3 rfl hr1.n) | exact (Vw.pick 4 rfl hr1.n) | exact (Vw.pick 5 rfl hr1.n) | exact (Vw.pick 6 rfl hr1.n) | exact (Vw.pick 7 rfl hr1.n) | exact (Vw.pick 8 rfl hr1.n) | exact (Vw.pick 9 rfl hr1.n) | exact (Vw.pick 10 rfl hr1.n) | exact (Vw.pick 11 rfl hr1.n) | exact (Vw.pick 0 rfl hV) | exact (Vw.pick 1 rfl hV) | exact (Vw.pick 2 rfl hV) | exact (Vw.pick 3 rfl hV) | exact (Vw.pick 4 rfl hV) | exact (Vw.pick 5 rfl hV) | exact (Vw.pick 6 rfl hV) | exact (Vw.pick 7 rfl hV) | exact (Vw.pick 8 rfl hV) | exact (Vw.pick 9 rfl hV) | exact (Vw.pick 10 rfl hV) | exact (Vw.pick 11 rfl hV) | exact Vw.pick 0 rfl Vw.row | exact Vw.pick 1 rfl Vw.row | exact Vw.pick 2 rfl Vw.row | exact Vw.pick 3 rfl Vw.row | exact Vw.pick 4 rfl Vw.row | exact Vw.pick 5 rfl Vw.row | exact Vw.pick 6 rfl Vw.row | exact Vw.pick 7 rfl Vw.row | exact Vw.pick 8 rfl Vw.row | exact Vw.pick 9 rfl Vw.row | exact Vw.pick 10 rfl Vw.row | exact Vw.pick 11 rfl Vw.row | exact Vw.nil _) (by first | exact hl | (have := hT.size; omega)))) rfl ?_
          rintro _ H' ⟨K, hK, hH⟩
          rcases hK with ⟨hn, rfl, rfl⟩ | ⟨xs2, b2, E2, hx2, _, _, _, _, _, rfl, rfl⟩
          all_goals
            simp only [List.cons_append, List.nil_append, List.eraseIdx_cons_zero, List.eraseIdx_cons_succ, List.set_cons_zero, List.set_cons_succ] at hH
            subst hH
          · refine ops_ro' rfl (ro_move rfl) rfl ?_
            refine ops_ro' rfl (ro_extract rfl rfl) rfl ?_
            refine ops_ro' rfl (ro_extract rfl rfl) rfl ?_
            refine ops_ro' rfl (ro_assign rfl) rfl ?_
            refine ops_ro' rfl (ro_assign rfl) rfl ?_
            refine ops_nil ?_
            refine Then_normal ?_
            refine wp_seq' ?_
            refine wp_region' ?_
            refine ops_ro' rfl (ro_move rfl) rfl ?_
            refine ops_ro' rfl (ro_ptrEqlNil Try.underlying23 rfl rfl rfl) rfl ?_
            refine ops_ro' rfl (ro_move rfl) rfl ?_
            refine ops_ro' rfl (ro_neq rfl rfl (decide_eq_true (by omega))) rfl ?_
            refine ops_ro' rfl (ro_neq_bool Try.underlying4 rfl rfl rfl) rfl ?_
            refine ops_ro' rfl (ro_move (v := .bool false) rfl) rfl ?_
            refine ops_ro' rfl (ro_move rfl) rfl ?_
            refine ops_ro' rfl (ro_neq rfl rfl (decide_eq_true (by omega))) rfl ?_
            refine ops_ro' rfl (ro_move (v := .bool true) rfl) rfl ?_
            refine ops_ro' rfl (ro_move rfl) rfl ?_
            refine ops_ro' rfl (ro_neq rfl rfl (decide_eq_false (by omega))) rfl ?_
            refine ops_ro' rfl (ro_pick rfl rfl) rfl ?_
            refine ops_ro' rfl (ro_pick rfl rfl) rfl ?_
            refine ops_nil ?_
            refine Then_normal ?_
            refine wp_condF rfl ?_
            refine wp_skip' ?_
            refine InBlock_normal ?_
            refine Then_normal ?_
            refine wp_region' ?_
            refine ops_ro' rfl (ro_add rfl rfl (wrap_inc (by omega))) rfl ?_
            refine ops_ro' rfl (ro_move rfl) rfl ?_
            refine ops_nil ?_
            refine Then_normal ?_
            refine back (0) (by omega) (kept ⟨2, (by omega), rfl, rfl⟩ ?_ ?_ ?_)
            · exact (by repeat (first | exact Has.nil _ | refine Has.cons rfl ?_))
            · exact (by repeat (first | exact Has.nil _ | refine Has.cons rfl ?_))
            · exact SubH.refl _
          · refine ops_ro' rfl (ro_move rfl) rfl ?_
            refine ops_ro' rfl (ro_extract rfl rfl) rfl ?_
            refine ops_ro' rfl (ro_extract rfl rfl) rfl ?_
            refine ops_ro' rfl (ro_assign rfl) rfl ?_
            refine ops_ro' rfl (ro_assign rfl) rfl ?_
            refine ops_nil ?_
            refine Then_normal ?_
            refine wp_seq' ?_
            refine wp_region' ?_
            refine ops_ro' rfl (ro_move rfl) rfl ?_
            refine ops_ro' rfl (ro_ptrEqlNil Try.underlying23 rfl rfl rfl) rfl ?_
            refine ops_ro' rfl (ro_move rfl) rfl ?_
            refine ops_ro' rfl (ro_neq rfl rfl (decide_eq_false (by omega))) rfl ?_
            refine ops_ro' rfl (ro_neq_bool Try.underlying4 rfl rfl rfl) rfl ?_
            refine ops_ro' rfl (ro_move (v := .bool false) rfl) rfl ?_
            refine ops_ro' rfl (ro_move rfl) rfl ?_
            refine ops_ro' rfl (ro_neq rfl rfl (decide_eq_false (by omega))) rfl ?_
            refine ops_ro' rfl (ro_move (v := .bool false) rfl) rfl ?_
            refine ops_skip' rfl rfl ?_
            refine ops_skip' rfl rfl ?_
            refine ops_ro' rfl (ro_pick rfl rfl) rfl ?_
            refine ops_ro' rfl (ro_pick rfl rfl) rfl ?_
            refine ops_nil ?_
            refine Then_normal ?_
            refine wp_condF rfl ?_
            refine wp_skip' ?_
            refine InBlock_normal ?_
            refine Then_normal ?_
            refine wp_region' ?_
            refine ops_ro' rfl (ro_add rfl rfl (wrap_inc (by omega))) rfl ?_
            refine ops_ro' rfl (ro_move rfl) rfl ?_
            refine ops_nil ?_
            refine Then_normal ?_
            refine back (0) (by omega) (kept ⟨2, (by omega), rfl, rfl⟩ ?_ ?_ ?_)
            · exact (by repeat (first | exact Has.nil _ | refine Has.cons rfl ?_))
            · exact (by repeat (first | exact Has.nil _ | refine Has.cons rfl ?_))
            · exact (SubH.cons 2 rfl (SubH.cons 2 rfl (SubH.cons 2 rfl (SubH.nil _))))
      · replace hc105 := of_decide_eq_false hc105
        refine wp_exit' ?_
        refine Then_exit ?_
        refine Then_exit ?_
        refine InBlock_here ?_
        refine Then_normal ?_
        refine wp_seq' ?_
        refine wp_region' ?_
        refine ops_eff' rfl (eff_call Try.call19 rfl rfl (by repeat (first | exact Split.nil _ | apply Split.cons 0 rfl | apply Split.cons 1 rfl | apply Split.cons 2 rfl | apply Split.cons 3 rfl | apply Split.cons 4 rfl | apply Split.cons 5 rfl | apply Split.cons 6 rfl | apply Split.cons 7 rfl | apply Split.cons 8 rfl | apply Split.cons 9 rfl | apply Split.cons 10 rfl | apply Split.cons 11 rfl)) (known21_spec)) rfl ?_
        rintro _ H' ⟨_, ⟨rfl, rfl⟩, hH⟩
        simp only [List.cons_append, List.nil_append, List.eraseIdx_cons_zero, List.eraseIdx_cons_succ, List.set_cons_zero, List.set_cons_succ] at hH
        subst hH
        refine ops_ro' rfl (ro_assign rfl) rfl ?_
        refine ops_nil ?_
        refine Then_normal ?_
        refine wp_ret' ?_
        refine' doneS_ret (res1 rfl rfl) ?_ ?_
        rotate_left 1
        exact ⟨rfl, rfl⟩
        exact (SubH.cons 2 rfl (SubH.nil _))

end Go.Proofs.Ytbiohhfibkolgaa
