/-
  The walk of NegoCuts.
-/
import Derived.Test.YtigaolglnnjnmaaDoorNgK
namespace Go.Proofs.YtigaolglnnjnmaaDoor
open Go.Sx
set_option linter.unusedVariables false
set_option linter.unusedSimpArgs false
set_option maxRecDepth 100000
set_option maxHeartbeats 4000000

theorem ncuts_run (V : HProp) (hM : Ml V) (s : List UInt8) (x : Li) (hx : x.Ok V) (cut : Int) (hcut1 : -9223372036854775808 ≤ cut ∧ cut ≤ 9223372036854775807) (p3 : Option Addr) (c3 : Nat) (mr : List UInt8) (hV3 : Vw V (.slice p3 mr.length c3) mr.length (cel mr)) (hm3 : mr.length ≤ 140737488351232) :
    Tri Tryd.prog 9 [.string (str s), x.v, .int .i64 cut, .slice p3 mr.length c3] [V] (fun v H' => v = .bool true ∧ ∃ W, SubH [W] [V] ∧ H' = [W]) := by
  refine tri_of_wpS Tryd.func9 rfl Tryd.ntmps9 (by simp) ?_
  refine wp_seq' ?_
  refine wp_region' ?_
  refine ops_eff' rfl (eff_box rfl) rfl ?_
  rintro _ _ ⟨b5, rfl, rfl⟩
  refine ops_ro' rfl (ro_assign rfl) rfl ?_
  refine ops_nil ?_
  refine Then_normal ?_
  refine wp_seq' ?_
  refine wp_region' ?_
  refine ops_ro' rfl (ro_move rfl) rfl ?_
  refine ops_eff' rfl (eff_call Tryd.call20 rfl rfl (by repeat (first | exact Split.nil _ | apply Split.cons 0 rfl | apply Split.cons 1 rfl | apply Split.cons 2 rfl | apply Split.cons 3 rfl | apply Split.cons 4 rfl | apply Split.cons 5 rfl | apply Split.cons 6 rfl | apply Split.cons 7 rfl | apply Split.cons 8 rfl | apply Split.cons 9 rfl | apply Split.cons 10 rfl | apply Split.cons 11 rfl)) (kHead s 260)) rfl ?_
  rintro _ H' ⟨_, ⟨rfl, rfl⟩, hH⟩
  simp only [List.cons_append, List.nil_append, List.eraseIdx_cons_zero, List.eraseIdx_cons_succ, List.set_cons_zero, List.set_cons_succ] at hH
  subst hH
  refine ops_eff' rfl (eff_call Tryd.call24 rfl rfl (by repeat (first | exact Split.nil _ | apply Split.cons 0 rfl | apply Split.cons 1 rfl | apply Split.cons 2 rfl | apply Split.cons 3 rfl | apply Split.cons 4 rfl | apply Split.cons 5 rfl | apply Split.cons 6 rfl | apply Split.cons 7 rfl | apply Split.cons 8 rfl | apply Split.cons 9 rfl | apply Split.cons 10 rfl | apply Split.cons 11 rfl)) (line_spec (s.take 260) (by rw [List.length_take]; omega))) rfl ?_
  rintro _ H' ⟨_, ⟨p23, c23, ln, e1, rfl, hln, rfl⟩, hH⟩
  simp only [List.cons_append, List.nil_append, List.eraseIdx_cons_zero, List.eraseIdx_cons_succ, List.set_cons_zero, List.set_cons_succ] at hH
  subst hH
  replace hln := line_cut (by rw [List.length_take]; omega) hln
  refine ops_ro' rfl (ro_move rfl) rfl ?_
  refine ops_ro' rfl (ro_extract rfl rfl) rfl ?_
  refine ops_ro' rfl (ro_extract rfl rfl) rfl ?_
  refine ops_ro' rfl (ro_assign rfl) rfl ?_
  refine ops_ro' rfl (ro_assign rfl) rfl ?_
  refine ops_nil ?_
  refine Then_normal ?_
  refine wp_cutK 1008 (fun Δ LL => Δ = [] ∧ LL = [own b5 (.cells (x.cs).toArray 46 (0, 0)), V]) (Has.cons (k := 2) rfl (Has.cons (k := 3) rfl (Has.cons (k := 5) rfl (Has.nil _)))) ?_ ?_
  · refine wp_seq' ?_
    refine wp_region' ?_
    refine ops_ro' rfl (ro_move rfl) rfl ?_
    refine ops_ro' rfl (ro_eql rfl rfl rfl) rfl ?_
    refine ops_nil ?_
    refine Then_normal ?_
    refine wp_cond' rfl (fun hc27 => ?_) (fun hc27 => ?_)
    · replace hc27 := of_decide_eq_true hc27
      obtain ⟨hcut, hl2, hl3⟩ := hln (by omega)
      refine wp_seq' ?_
      refine wp_seq' ?_
      refine wp_region' ?_
      refine ops_ro' rfl (ro_move rfl) rfl ?_
      refine ops_ro' rfl (ro_sliceLen Tryd.underlying22 rfl) rfl ?_
      refine ops_ro' rfl (ro_eql rfl rfl (decide_eq_false (by omega))) rfl ?_
      refine ops_nil ?_
      refine Then_normal ?_
      refine wp_condF rfl ?_
      refine wp_skip' ?_
      refine Then_normal ?_
      refine wp_seq' ?_
      refine wp_know (fun w F s => row_caps 0 rfl s) ?_
      intro hcl
      refine wp_region' ?_
      refine ops_ro' rfl (ro_move rfl) rfl ?_
      refine ops_ro' rfl (ro_move rfl) rfl ?_
      refine ops_ro' rfl (ro_move rfl) rfl ?_
      refine ops_ro' rfl (ro_sliceLen Tryd.underlying22 rfl) rfl ?_
      refine ops_ro' rfl (ro_sub rfl rfl (show IntKind.i64.wrap ((ln.length : Int) - 1) = (ln.length : Int) - 1 by rw [wrap_i64_in (by omega) (by omega)])) rfl ?_
      refine ops_eff' rfl (eff_call Tryd.call33 rfl rfl (by repeat (first | exact Split.nil _ | apply Split.cons 0 rfl | apply Split.cons 1 rfl | apply Split.cons 2 rfl | apply Split.cons 3 rfl | apply Split.cons 4 rfl | apply Split.cons 5 rfl | apply Split.cons 6 rfl | apply Split.cons 7 rfl | apply Split.cons 8 rfl | apply Split.cons 9 rfl | apply Split.cons 10 rfl | apply Split.cons 11 rfl)) (within_spec cut 0 ((ln.length : Int) - 1) (by omega) (by omega) (by omega))) rfl ?_
      rintro _ H' ⟨_, ⟨rfl, rfl⟩, hH⟩
      simp only [List.cons_append, List.nil_append, List.eraseIdx_cons_zero, List.eraseIdx_cons_succ, List.set_cons_zero, List.set_cons_succ] at hH
      subst hH
      obtain ⟨k, hk, hkl⟩ : ∃ k : Nat, 0 + cut % ((ln.length : Int) - 1 - 0 + 1) = (k : Int) ∧ k < ln.length := ⟨(cut % ((ln.length : Int) - 1 - 0 + 1)).toNat, by have := Int.emod_nonneg cut (show (ln.length : Int) - 1 - 0 + 1 ≠ 0 by omega); omega, by have := Int.emod_nonneg cut (show (ln.length : Int) - 1 - 0 + 1 ≠ 0 by omega); have := Int.emod_lt_of_pos cut (show 0 < (ln.length : Int) - 1 - 0 + 1 by omega); omega⟩
      rw [hk]
      refine ops_eff' rfl (eff_sliceB 0 rfl sl22 rfl Vw.row rfl (bnd_of rfl rfl) (by omega) (by omega) hcl) rfl ?_
      rintro _ _ ⟨p38, rfl, hv38, hn38, rfl⟩
      rw [show List.take (k - 0) (List.drop 0 ln) = ln.take k from by simp] at hv38 ⊢
      refine ops_eff' rfl (eff_callM (Pre := []) Tryd.call25 rfl rfl (Split.nil _) (ngVersion_spec _ (Ml.pick 2 rfl hM) p38 (c23 - 0) (ln.take k) (by first | exact (Vw.pick 0 rfl hv38) | exact (Vw.pick 1 rfl hv38) | exact (Vw.pick 2 rfl hv38) | exact (Vw.pick 3 rfl hv38) | exact (Vw.pick 4 rfl hv38) | exact (Vw.pick 5 rfl hv38) | exact (Vw.pick 6 rfl hv38) | exact (Vw.pick 0 rfl hy.ck) | exact (Vw.pick 1 rfl hy.ck) | exact (Vw.pick 2 rfl hy.ck) | exact (Vw.pick 3 rfl hy.ck) | exact (Vw.pick 4 rfl hy.ck) | exact (Vw.pick 5 rfl hy.ck) | exact (Vw.pick 6 rfl hy.ck) | exact (Vw.pick 0 rfl hv69) | exact (Vw.pick 1 rfl hv69) | exact (Vw.pick 2 rfl hv69) | exact (Vw.pick 3 rfl hv69) | exact (Vw.pick 4 rfl hv69) | exact (Vw.pick 5 rfl hv69) | exact (Vw.pick 6 rfl hv69) | exact (Vw.pick 0 rfl hvW) | exact (Vw.pick 1 rfl hvW) | exact (Vw.pick 2 rfl hvW) | exact (Vw.pick 3 rfl hvW) | exact (Vw.pick 4 rfl hvW) | exact (Vw.pick 5 rfl hvW) | exact (Vw.pick 6 rfl hvW) | exact Vw.pick 0 rfl Vw.row | exact Vw.pick 1 rfl Vw.row | exact Vw.pick 2 rfl Vw.row | exact Vw.pick 3 rfl Vw.row | exact Vw.pick 4 rfl Vw.row | exact Vw.pick 5 rfl Vw.row | exact Vw.pick 6 rfl Vw.row | exact Vw.nil _ | exact Vw.empty _ _) (by rw [List.length_take]; omega) (by rw [List.length_take]; omega))) rfl ?_
      rintro _ H' ⟨_, ⟨rfl, rfl⟩, hH⟩
      simp only [List.cons_append, List.nil_append, List.eraseIdx_cons_zero, List.eraseIdx_cons_succ, List.set_cons_zero, List.set_cons_succ] at hH
      subst hH
      rw [hcut k hkl]
      refine ops_ro' rfl (ro_move rfl) rfl ?_
      refine ops_ro' rfl (ro_extract rfl rfl) rfl ?_
      refine ops_ro' rfl (ro_extract rfl rfl) rfl ?_
      refine ops_ro' rfl (ro_extract rfl rfl) rfl ?_
      refine ops_ro' rfl (ro_assign rfl) rfl ?_
      refine ops_ro' rfl (ro_assign rfl) rfl ?_
      refine ops_ro' rfl (ro_assign rfl) rfl ?_
      refine ops_nil ?_
      refine Then_normal ?_
      refine wp_seq' ?_
      refine wp_region' ?_
      refine ops_ro' rfl (ro_move rfl) rfl ?_
      refine ops_ro' rfl (ro_neq rfl rfl rfl) rfl ?_
      refine ops_nil ?_
      refine Then_normal ?_
      refine wp_condF rfl ?_
      refine wp_skip' ?_
      refine Then_normal ?_
      refine over_cut (kept ⟨rfl, rfl⟩ ?_ ?_ ?_)
      · exact (by repeat (first | exact Has.nil _ | refine Has.cons rfl ?_))
      · exact (by repeat (first | exact Has.nil _ | refine Has.cons rfl ?_))
      · exact (SubH.cons 1 rfl (SubH.cons 1 rfl (SubH.nil _)))
    · replace hc27 := of_decide_eq_false hc27
      refine wp_skip' ?_
      refine Then_normal ?_
      refine over_cut (kept ⟨rfl, rfl⟩ ?_ ?_ ?_)
      · exact (by repeat (first | exact Has.nil _ | refine Has.cons rfl ?_))
      · exact (by repeat (first | exact Has.nil _ | refine Has.cons rfl ?_))
      · exact (SubH.cons 1 rfl (SubH.cons 1 rfl (SubH.nil _)))
  · rintro Δ LL ⟨rfl, rfl⟩
    simp only [List.cons_append, List.nil_append]
    refine wp_seq' ?_
    refine wp_region' ?_
    refine ops_ro' rfl (ro_loadA ag46 rfl (RdN.of_pick 0 rfl rdn_all) (lcs_len hx.len)) rfl ?_
    refine ops_eff' rfl (eff_call Tryd.call23 rfl rfl (by repeat (first | exact Split.nil _ | apply Split.cons 0 rfl | apply Split.cons 1 rfl | apply Split.cons 2 rfl | apply Split.cons 3 rfl | apply Split.cons 4 rfl | apply Split.cons 5 rfl | apply Split.cons 6 rfl | apply Split.cons 7 rfl | apply Split.cons 8 rfl | apply Split.cons 9 rfl | apply Split.cons 10 rfl | apply Split.cons 11 rfl)) (short9_spec V x hx)) rfl ?_
    rintro _ H' ⟨_, ⟨U, y, rfl, hy, hys, hsub, rfl⟩, hH⟩
    simp only [List.cons_append, List.nil_append, List.eraseIdx_cons_zero, List.eraseIdx_cons_succ, List.set_cons_zero, List.set_cons_succ] at hH
    subst hH
    have hMU := ml_sub hsub hM
    refine ops_eff0 rfl (eff_storeA 1 ag46 rfl rfl (lcs_len hy.len) (lcs_one rfl) rfl (li_le hx.len hy.len) (warm_zero _)) rfl ?_
    rintro _ _ rfl
    simp only [List.set_cons_zero, List.set_cons_succ]
    rw [over_all (li_eq hx.len hy.len)]
    refine ops_nil ?_
    refine Then_normal ?_
    refine wp_seq' ?_
    refine wp_region' ?_
    refine ops_ro' rfl (ro_fieldAddr fa46_0 rfl) rfl ?_
    refine ops_ro' rfl (ro_load sc22 rfl (Rd.pick 1 rfl (Rd.own rfl))) rfl ?_
    refine ops_eff' rfl (eff_callM (Pre := []) Tryd.call10 rfl rfl (Split.nil _) (sized16 y.cp y.cc y.ck (by first | exact (Vw.pick 0 rfl hv38) | exact (Vw.pick 1 rfl hv38) | exact (Vw.pick 2 rfl hv38) | exact (Vw.pick 3 rfl hv38) | exact (Vw.pick 4 rfl hv38) | exact (Vw.pick 5 rfl hv38) | exact (Vw.pick 6 rfl hv38) | exact (Vw.pick 0 rfl hy.ck) | exact (Vw.pick 1 rfl hy.ck) | exact (Vw.pick 2 rfl hy.ck) | exact (Vw.pick 3 rfl hy.ck) | exact (Vw.pick 4 rfl hy.ck) | exact (Vw.pick 5 rfl hy.ck) | exact (Vw.pick 6 rfl hy.ck) | exact (Vw.pick 0 rfl hv69) | exact (Vw.pick 1 rfl hv69) | exact (Vw.pick 2 rfl hv69) | exact (Vw.pick 3 rfl hv69) | exact (Vw.pick 4 rfl hv69) | exact (Vw.pick 5 rfl hv69) | exact (Vw.pick 6 rfl hv69) | exact (Vw.pick 0 rfl hvW) | exact (Vw.pick 1 rfl hvW) | exact (Vw.pick 2 rfl hvW) | exact (Vw.pick 3 rfl hvW) | exact (Vw.pick 4 rfl hvW) | exact (Vw.pick 5 rfl hvW) | exact (Vw.pick 6 rfl hvW) | exact Vw.pick 0 rfl Vw.row | exact Vw.pick 1 rfl Vw.row | exact Vw.pick 2 rfl Vw.row | exact Vw.pick 3 rfl Vw.row | exact Vw.pick 4 rfl Vw.row | exact Vw.pick 5 rfl Vw.row | exact Vw.pick 6 rfl Vw.row | exact Vw.nil _ | exact Vw.empty _ _) (by have := hys.ck; omega))) rfl ?_
    rintro _ H' ⟨_, ⟨b49, zz, rfl, hzl, rfl⟩, hH⟩
    simp only [List.cons_append, List.nil_append, List.eraseIdx_cons_zero, List.eraseIdx_cons_succ, List.set_cons_zero, List.set_cons_succ] at hH
    subst hH
    refine ops_ro' rfl (ro_fieldAddr fa46_0 rfl) rfl ?_
    refine ops_eff0 rfl (eff_store 2 sc22 rfl rfl rfl rfl (li_pos hy.len) (warm_zero _)) rfl ?_
    rintro _ _ rfl
    simp only [List.set_cons_zero, List.set_cons_succ]
    refine ops_sub' (L := [own b5 (.cells (lcs (.slice (some ⟨b49, 0, none⟩) zz.length zz.length) y.ns y.f).toArray 46 (0, 0))] ++ [row 5 1 (.slice (some ⟨b49, 0, none⟩) zz.length zz.length) zz.length (cel zz), U]) (by repeat (first | exact SubH.nil _ | refine SubH.cons 0 rfl ?_ | refine SubH.cons 1 rfl ?_ | refine SubH.cons 2 rfl ?_ | refine SubH.cons 3 rfl ?_ | refine SubH.cons 4 rfl ?_ | refine SubH.cons 5 rfl ?_ | refine SubH.cons 6 rfl ?_ | refine SubH.cons 7 rfl ?_ | refine SubH.cons 8 rfl ?_ | refine SubH.cons 9 rfl ?_ | refine SubH.cons 10 rfl ?_ | refine SubH.cons 11 rfl ?_ | refine SubH.cons 12 rfl ?_ | refine SubH.cons 13 rfl ?_ | refine SubH.rown ?_)) ?_
    refine pack2 fun W hW => ?_
    simp only [List.cons_append, List.nil_append]
    obtain ⟨z, hz1, hz2, hz3, hz4, -⟩ := z_new (b := b49) hy hys hzl
    rw [hz1]
    rw [← hW] at hz2
    have hMW : Ml W := by subst hW; exact Ml.pick 1 rfl hMU
    have hsW : SubH [W] [V] := SubH.trans (by subst hW; exact sub_pk (SubH.cons 1 rfl (SubH.nil _))) hsub
    have hvW := vw_sub hsW hV3
    clear hW hz1
    refine ops_nil ?_
    refine Then_normal ?_
    refine wp_seq' ?_
    refine wp_region' ?_
    refine ops_ro' rfl (ro_loadA ag46 rfl (RdN.of_pick 0 rfl rdn_all) (lcs_len hz2.len)) rfl ?_
    refine ops_eff' rfl (eff_call Tryd.call27 rfl rfl (by repeat (first | exact Split.nil _ | apply Split.cons 0 rfl | apply Split.cons 1 rfl | apply Split.cons 2 rfl | apply Split.cons 3 rfl | apply Split.cons 4 rfl | apply Split.cons 5 rfl | apply Split.cons 6 rfl | apply Split.cons 7 rfl | apply Split.cons 8 rfl | apply Split.cons 9 rfl | apply Split.cons 10 rfl | apply Split.cons 11 rfl)) (enc_spec W z hz2 hz3)) rfl ?_
    rintro _ H' ⟨_, ⟨_, ⟨pe, ce, bs, e2, rfl, he, rfl⟩, rfl⟩, hH⟩
    simp only [List.cons_append, List.nil_append, List.eraseIdx_cons_zero, List.eraseIdx_cons_succ, List.set_cons_zero, List.set_cons_succ] at hH
    subst hH
    replace he := enc_dec hz2 hz3 he
    refine ops_know (fun w F s => row_caps 0 rfl s) ?_
    intro hce
    refine ops_ro' rfl (ro_move rfl) rfl ?_
    refine ops_ro' rfl (ro_extract rfl rfl) rfl ?_
    refine ops_ro' rfl (ro_extract rfl rfl) rfl ?_
    refine ops_ro' rfl (ro_assign rfl) rfl ?_
    refine ops_ro' rfl (ro_assign rfl) rfl ?_
    refine ops_nil ?_
    refine Then_normal ?_
    refine wp_seq' ?_
    refine wp_seq' ?_
    refine wp_region' ?_
    refine ops_ro' rfl (ro_move rfl) rfl ?_
    refine ops_ro' rfl (ro_neq rfl rfl rfl) rfl ?_
    refine ops_nil ?_
    refine Then_normal ?_
    refine wp_cond' rfl (fun hc57 => ?_) (fun hc57 => ?_)
    · replace hc57 := of_decide_eq_true hc57
      refine wp_seq' ?_
      refine wp_region' ?_
      refine ops_eff' rfl (eff_call Tryd.call32 rfl rfl (by repeat (first | exact Split.nil _ | apply Split.cons 0 rfl | apply Split.cons 1 rfl | apply Split.cons 2 rfl | apply Split.cons 3 rfl | apply Split.cons 4 rfl | apply Split.cons 5 rfl | apply Split.cons 6 rfl | apply Split.cons 7 rfl | apply Split.cons 8 rfl | apply Split.cons 9 rfl | apply Split.cons 10 rfl | apply Split.cons 11 rfl)) (known9_spec W hMW)) rfl ?_
      rintro _ H' ⟨_, ⟨rfl, rfl⟩, hH⟩
      simp only [List.cons_append, List.nil_append, List.eraseIdx_cons_zero, List.eraseIdx_cons_succ, List.set_cons_zero, List.set_cons_succ] at hH
      subst hH
      refine ops_ro' rfl (ro_assign rfl) rfl ?_
      refine ops_nil ?_
      refine Then_normal ?_
      refine wp_ret' ?_
      refine Then_ret ?_
      refine' doneS_ret (res1 rfl rfl) ?_ ?_
      rotate_left 1
      exact ⟨rfl, W, hsW, rfl⟩
      exact (SubH.cons 0 rfl (SubH.nil _))
    · replace hc57 := of_decide_eq_false hc57
      obtain ⟨hdec, hb1, hb2⟩ := he (by omega)
      refine wp_skip' ?_
      refine Then_normal ?_
      refine wp_seq' ?_
      refine wp_seq' ?_
      refine wp_region' ?_
      refine ops_ro' rfl (ro_move rfl) rfl ?_
      refine ops_ro' rfl (ro_sliceLen Tryd.underlying22 rfl) rfl ?_
      refine ops_ro' rfl (ro_eql rfl rfl (decide_eq_false (by omega))) rfl ?_
      refine ops_nil ?_
      refine Then_normal ?_
      refine wp_condF rfl ?_
      refine wp_skip' ?_
      refine Then_normal ?_
      refine wp_cutK 1016 (fun Δ LL => Δ = [(17, .int .i64 12)] ∧ LL = [row 5 1 (.slice pe bs.length ce) bs.length (cel bs), W]) (Has.cons (k := 3) rfl (Has.cons (k := 14) rfl (Has.nil _))) ?_ ?_
      · refine wp_region' ?_
        refine ops_ro' rfl (ro_move rfl) rfl ?_
        refine ops_ro' rfl (ro_move rfl) rfl ?_
        refine ops_ro' rfl (ro_move rfl) rfl ?_
        refine ops_ro' rfl (ro_sliceLen Tryd.underlying22 rfl) rfl ?_
        refine ops_ro' rfl (ro_sub rfl rfl (show IntKind.i64.wrap ((bs.length : Int) - 1) = (bs.length : Int) - 1 by rw [wrap_i64_in (by omega) (by omega)])) rfl ?_
        refine ops_eff' rfl (eff_call Tryd.call33 rfl rfl (by repeat (first | exact Split.nil _ | apply Split.cons 0 rfl | apply Split.cons 1 rfl | apply Split.cons 2 rfl | apply Split.cons 3 rfl | apply Split.cons 4 rfl | apply Split.cons 5 rfl | apply Split.cons 6 rfl | apply Split.cons 7 rfl | apply Split.cons 8 rfl | apply Split.cons 9 rfl | apply Split.cons 10 rfl | apply Split.cons 11 rfl)) (within_spec cut 0 ((bs.length : Int) - 1) (by omega) (by omega) (by omega))) rfl ?_
        rintro _ H' ⟨_, ⟨rfl, rfl⟩, hH⟩
        simp only [List.cons_append, List.nil_append, List.eraseIdx_cons_zero, List.eraseIdx_cons_succ, List.set_cons_zero, List.set_cons_succ] at hH
        subst hH
        obtain ⟨k, hk, hkl⟩ : ∃ k : Nat, 0 + cut % ((bs.length : Int) - 1 - 0 + 1) = (k : Int) ∧ k < bs.length := ⟨(cut % ((bs.length : Int) - 1 - 0 + 1)).toNat, by have := Int.emod_nonneg cut (show (bs.length : Int) - 1 - 0 + 1 ≠ 0 by omega); omega, by have := Int.emod_nonneg cut (show (bs.length : Int) - 1 - 0 + 1 ≠ 0 by omega); have := Int.emod_lt_of_pos cut (show 0 < (bs.length : Int) - 1 - 0 + 1 by omega); omega⟩
        rw [hk]
        refine ops_eff' rfl (eff_sliceB 0 rfl sl22 rfl Vw.row rfl (bnd_of rfl rfl) (by omega) (by omega) hce) rfl ?_
        rintro _ _ ⟨p69, rfl, hv69, hn69, rfl⟩
        rw [show List.take (k - 0) (List.drop 0 bs) = bs.take k from by simp] at hv69 ⊢
        refine ops_eff' rfl (eff_callM (Pre := []) Tryd.call28 rfl rfl (Split.nil _) (dec_spec _ (by first | exact Ml.pick 0 rfl hMW | exact Ml.pick 1 rfl hMW | exact Ml.pick 2 rfl hMW | exact Ml.pick 3 rfl hMW | exact Ml.pick 4 rfl hMW | exact Ml.pick 5 rfl hMW) p69 (ce - 0) (bs.take k) (by first | exact (Vw.pick 0 rfl hv38) | exact (Vw.pick 1 rfl hv38) | exact (Vw.pick 2 rfl hv38) | exact (Vw.pick 3 rfl hv38) | exact (Vw.pick 4 rfl hv38) | exact (Vw.pick 5 rfl hv38) | exact (Vw.pick 6 rfl hv38) | exact (Vw.pick 0 rfl hy.ck) | exact (Vw.pick 1 rfl hy.ck) | exact (Vw.pick 2 rfl hy.ck) | exact (Vw.pick 3 rfl hy.ck) | exact (Vw.pick 4 rfl hy.ck) | exact (Vw.pick 5 rfl hy.ck) | exact (Vw.pick 6 rfl hy.ck) | exact (Vw.pick 0 rfl hv69) | exact (Vw.pick 1 rfl hv69) | exact (Vw.pick 2 rfl hv69) | exact (Vw.pick 3 rfl hv69) | exact (Vw.pick 4 rfl hv69) | exact (Vw.pick 5 rfl hv69) | exact (Vw.pick 6 rfl hv69) | exact (Vw.pick 0 rfl hvW) | exact (Vw.pick 1 rfl hvW) | exact (Vw.pick 2 rfl hvW) | exact (Vw.pick 3 rfl hvW) | exact (Vw.pick 4 rfl hvW) | exact (Vw.pick 5 rfl hvW) | exact (Vw.pick 6 rfl hvW) | exact Vw.pick 0 rfl Vw.row | exact Vw.pick 1 rfl Vw.row | exact Vw.pick 2 rfl Vw.row | exact Vw.pick 3 rfl Vw.row | exact Vw.pick 4 rfl Vw.row | exact Vw.pick 5 rfl Vw.row | exact Vw.pick 6 rfl Vw.row | exact Vw.nil _ | exact Vw.empty _ _) (by rw [List.length_take]; omega))) rfl ?_
        rintro _ H' ⟨_, ⟨Ud, vs, e3, rfl, hd3, rfl⟩, hH⟩
        simp only [List.cons_append, List.nil_append, List.eraseIdx_cons_zero, List.eraseIdx_cons_succ, List.set_cons_zero, List.set_cons_succ] at hH
        subst hH
        obtain rfl : e3 = 12 := decP_none hd3 (dec_cut hdec hkl)
        refine ops_ro' rfl (ro_move rfl) rfl ?_
        refine ops_ro' rfl (ro_extract rfl rfl) rfl ?_
        refine ops_ro' rfl (ro_extract rfl rfl) rfl ?_
        refine ops_eff' rfl (eff_alloc z46) rfl ?_
        rintro _ _ ⟨b16, rfl, rfl⟩
        refine ops_eff0 rfl (eff_storeA 0 ag46 rfl rfl hd3.1 hd3.2.1 rfl (vs_le hd3.1) (warm_zero _)) rfl ?_
        rintro _ _ rfl
        simp only [List.set_cons_zero, List.set_cons_succ]
        rw [over_all (by rw [hd3.1]; rfl)]
        refine ops_ro' rfl (ro_assign rfl) rfl ?_
        refine ops_nil ?_
        refine Then_normal ?_
        refine over_cut (kept ⟨rfl, rfl⟩ ?_ ?_ ?_)
        · exact (by repeat (first | exact Has.nil _ | refine Has.cons rfl ?_))
        · exact (by repeat (first | exact Has.nil _ | refine Has.cons rfl ?_))
        · exact (SubH.cons 2 rfl (SubH.cons 2 rfl (SubH.nil _)))
      · rintro Δ LL ⟨rfl, rfl⟩
        simp only [List.cons_append, List.nil_append]
        refine wp_cutK 1017 (fun Δ LL => ∃ (e4 : Int), (decide (e4 = 0) = decide (((mr.length : Nat) : Int) = 0)) ∧ Δ = [(19, .int .i64 e4)] ∧ LL = [W]) (Has.cons (k := 3) rfl (Has.cons (k := 17) rfl (Has.nil _))) ?_ ?_
        · refine wp_region' ?_
          refine ops_eff' rfl (eff_lit sl22 rfl (sbld (cs := []) [] sl22 (by decide) (by kernel_rfl) rfl) rfl (by decide)) rfl ?_
          rintro _ _ ⟨b74, rfl, rfl⟩
          refine ops_ro' rfl (ro_move rfl) rfl ?_
          refine ops_eff' rfl (eff_appB (l := []) (l2 := bs) 0 sl22 (.inl ⟨5, Tryd.underlying22⟩) rfl rfl rfl (by first | exact Src.strl | exact Src.celv (Vw.pick 0 rfl hv38) | exact Src.celv (Vw.pick 1 rfl hv38) | exact Src.celv (Vw.pick 2 rfl hv38) | exact Src.celv (Vw.pick 3 rfl hv38) | exact Src.celv (Vw.pick 4 rfl hv38) | exact Src.celv (Vw.pick 5 rfl hv38) | exact Src.celv (Vw.pick 6 rfl hv38) | exact Src.celv (Vw.pick 0 rfl hy.ck) | exact Src.celv (Vw.pick 1 rfl hy.ck) | exact Src.celv (Vw.pick 2 rfl hy.ck) | exact Src.celv (Vw.pick 3 rfl hy.ck) | exact Src.celv (Vw.pick 4 rfl hy.ck) | exact Src.celv (Vw.pick 5 rfl hy.ck) | exact Src.celv (Vw.pick 6 rfl hy.ck) | exact Src.celv (Vw.pick 0 rfl hv69) | exact Src.celv (Vw.pick 1 rfl hv69) | exact Src.celv (Vw.pick 2 rfl hv69) | exact Src.celv (Vw.pick 3 rfl hv69) | exact Src.celv (Vw.pick 4 rfl hv69) | exact Src.celv (Vw.pick 5 rfl hv69) | exact Src.celv (Vw.pick 6 rfl hv69) | exact Src.celv (Vw.pick 0 rfl hvW) | exact Src.celv (Vw.pick 1 rfl hvW) | exact Src.celv (Vw.pick 2 rfl hvW) | exact Src.celv (Vw.pick 3 rfl hvW) | exact Src.celv (Vw.pick 4 rfl hvW) | exact Src.celv (Vw.pick 5 rfl hvW) | exact Src.celv (Vw.pick 6 rfl hvW) | exact Src.celv (Vw.pick 0 rfl Vw.row) | exact Src.celv (Vw.pick 1 rfl Vw.row) | exact Src.celv (Vw.pick 2 rfl Vw.row) | exact Src.celv (Vw.pick 3 rfl Vw.row) | exact Src.celv (Vw.pick 4 rfl Vw.row) | exact Src.celv (Vw.pick 5 rfl Vw.row) | exact Src.celv (Vw.pick 6 rfl Vw.row)) (by first | omega | (simp only [List.length_append, List.length_cons, List.length_nil, List.length_take, List.length_drop] at *; omega))) rfl ?_
          rintro _ _ ⟨p76, c76, rfl, hn76, rfl⟩
          simp only [List.set_cons_zero, List.set_cons_succ, List.nil_append]
          refine ops_ro' rfl (ro_move rfl) rfl ?_
          refine ops_eff' rfl (eff_appB (l2 := mr) 0 sl22 (.inl ⟨5, Tryd.underlying22⟩) rfl rfl rfl (by first | exact Src.strl | exact Src.celv (Vw.pick 0 rfl hv38) | exact Src.celv (Vw.pick 1 rfl hv38) | exact Src.celv (Vw.pick 2 rfl hv38) | exact Src.celv (Vw.pick 3 rfl hv38) | exact Src.celv (Vw.pick 4 rfl hv38) | exact Src.celv (Vw.pick 5 rfl hv38) | exact Src.celv (Vw.pick 6 rfl hv38) | exact Src.celv (Vw.pick 0 rfl hy.ck) | exact Src.celv (Vw.pick 1 rfl hy.ck) | exact Src.celv (Vw.pick 2 rfl hy.ck) | exact Src.celv (Vw.pick 3 rfl hy.ck) | exact Src.celv (Vw.pick 4 rfl hy.ck) | exact Src.celv (Vw.pick 5 rfl hy.ck) | exact Src.celv (Vw.pick 6 rfl hy.ck) | exact Src.celv (Vw.pick 0 rfl hv69) | exact Src.celv (Vw.pick 1 rfl hv69) | exact Src.celv (Vw.pick 2 rfl hv69) | exact Src.celv (Vw.pick 3 rfl hv69) | exact Src.celv (Vw.pick 4 rfl hv69) | exact Src.celv (Vw.pick 5 rfl hv69) | exact Src.celv (Vw.pick 6 rfl hv69) | exact Src.celv (Vw.pick 0 rfl hvW) | exact Src.celv (Vw.pick 1 rfl hvW) | exact Src.celv (Vw.pick 2 rfl hvW) | exact Src.celv (Vw.pick 3 rfl hvW) | exact Src.celv (Vw.pick 4 rfl hvW) | exact Src.celv (Vw.pick 5 rfl hvW) | exact Src.celv (Vw.pick 6 rfl hvW) | exact Src.celv (Vw.pick 0 rfl Vw.row) | exact Src.celv (Vw.pick 1 rfl Vw.row) | exact Src.celv (Vw.pick 2 rfl Vw.row) | exact Src.celv (Vw.pick 3 rfl Vw.row) | exact Src.celv (Vw.pick 4 rfl Vw.row) | exact Src.celv (Vw.pick 5 rfl Vw.row) | exact Src.celv (Vw.pick 6 rfl Vw.row)) (by first | omega | (simp only [List.length_append, List.length_cons, List.length_nil, List.length_take, List.length_drop] at *; omega))) rfl ?_
          rintro _ _ ⟨p78, c78, rfl, hn78, rfl⟩
          simp only [List.set_cons_zero, List.set_cons_succ]
          refine ops_eff' rfl (eff_callM (Pre := []) Tryd.call28 rfl rfl (Split.nil _) (dec_spec _ (by first | exact Ml.pick 0 rfl hMW | exact Ml.pick 1 rfl hMW | exact Ml.pick 2 rfl hMW | exact Ml.pick 3 rfl hMW | exact Ml.pick 4 rfl hMW | exact Ml.pick 5 rfl hMW) p78 c78 (bs ++ mr) (by first | exact (Vw.pick 0 rfl hv38) | exact (Vw.pick 1 rfl hv38) | exact (Vw.pick 2 rfl hv38) | exact (Vw.pick 3 rfl hv38) | exact (Vw.pick 4 rfl hv38) | exact (Vw.pick 5 rfl hv38) | exact (Vw.pick 6 rfl hv38) | exact (Vw.pick 0 rfl hy.ck) | exact (Vw.pick 1 rfl hy.ck) | exact (Vw.pick 2 rfl hy.ck) | exact (Vw.pick 3 rfl hy.ck) | exact (Vw.pick 4 rfl hy.ck) | exact (Vw.pick 5 rfl hy.ck) | exact (Vw.pick 6 rfl hy.ck) | exact (Vw.pick 0 rfl hv69) | exact (Vw.pick 1 rfl hv69) | exact (Vw.pick 2 rfl hv69) | exact (Vw.pick 3 rfl hv69) | exact (Vw.pick 4 rfl hv69) | exact (Vw.pick 5 rfl hv69) | exact (Vw.pick 6 rfl hv69) | exact (Vw.pick 0 rfl hvW) | exact (Vw.pick 1 rfl hvW) | exact (Vw.pick 2 rfl hvW) | exact (Vw.pick 3 rfl hvW) | exact (Vw.pick 4 rfl hvW) | exact (Vw.pick 5 rfl hvW) | exact (Vw.pick 6 rfl hvW) | exact Vw.pick 0 rfl Vw.row | exact Vw.pick 1 rfl Vw.row | exact Vw.pick 2 rfl Vw.row | exact Vw.pick 3 rfl Vw.row | exact Vw.pick 4 rfl Vw.row | exact Vw.pick 5 rfl Vw.row | exact Vw.pick 6 rfl Vw.row | exact Vw.nil _ | exact Vw.empty _ _) (by rw [List.length_append]; omega))) rfl ?_
          rintro _ H' ⟨_, ⟨Ue, vs2, e4, rfl, hd4, rfl⟩, hH⟩
          simp only [List.cons_append, List.nil_append, List.eraseIdx_cons_zero, List.eraseIdx_cons_succ, List.set_cons_zero, List.set_cons_succ] at hH
          subst hH
          have he4 := decP_iff hd4 (dec_all hdec)
          refine ops_ro' rfl (ro_move rfl) rfl ?_
          refine ops_ro' rfl (ro_extract rfl rfl) rfl ?_
          refine ops_ro' rfl (ro_extract rfl rfl) rfl ?_
          refine ops_eff' rfl (eff_alloc z46) rfl ?_
          rintro _ _ ⟨b18, rfl, rfl⟩
          refine ops_eff0 rfl (eff_storeA 0 ag46 rfl rfl hd4.1 hd4.2.1 rfl (vs_le hd4.1) (warm_zero _)) rfl ?_
          rintro _ _ rfl
          simp only [List.set_cons_zero, List.set_cons_succ]
          rw [over_all (by rw [hd4.1]; rfl)]
          refine ops_ro' rfl (ro_assign rfl) rfl ?_
          refine ops_nil ?_
          refine Then_normal ?_
          refine over_cut (kept ⟨e4, he4, rfl, rfl⟩ ?_ ?_ ?_)
          · exact (by repeat (first | exact Has.nil _ | refine Has.cons rfl ?_))
          · exact (by repeat (first | exact Has.nil _ | refine Has.cons rfl ?_))
          · exact (SubH.cons 4 rfl (SubH.nil _))
        · rintro Δ LL ⟨e4, he4, rfl, rfl⟩
          simp only [List.cons_append, List.nil_append]
          refine wp_seq' ?_
          refine wp_region' ?_
          refine ops_ro' rfl (ro_move rfl) rfl ?_
          refine ops_ro' rfl (ro_eql rfl rfl (decide_eq_true (by omega))) rfl ?_
          refine ops_ro' rfl (ro_move (v := .bool true) rfl) rfl ?_
          refine ops_ro' rfl (ro_move rfl) rfl ?_
          refine ops_ro' rfl (ro_eql rfl rfl rfl) rfl ?_
          refine ops_ro' rfl (ro_move rfl) rfl ?_
          refine ops_ro' rfl (ro_sliceLen Tryd.underlying22 rfl) rfl ?_
          refine ops_ro' rfl (ro_eql rfl rfl rfl) rfl ?_
          refine ops_ro' rfl (ro_eql_bool Tryd.underlying4 rfl rfl (c := true) (by rw [he4]; simp)) rfl ?_
          refine ops_ro' rfl (ro_pick rfl rfl) rfl ?_
          refine ops_ro' rfl (ro_move (v := .bool true) rfl) rfl ?_
          refine ops_eff' rfl (eff_call Tryd.call32 rfl rfl (by repeat (first | exact Split.nil _ | apply Split.cons 0 rfl | apply Split.cons 1 rfl | apply Split.cons 2 rfl | apply Split.cons 3 rfl | apply Split.cons 4 rfl | apply Split.cons 5 rfl | apply Split.cons 6 rfl | apply Split.cons 7 rfl | apply Split.cons 8 rfl | apply Split.cons 9 rfl | apply Split.cons 10 rfl | apply Split.cons 11 rfl)) (known9_spec W hMW)) rfl ?_
          rintro _ H' ⟨_, ⟨rfl, rfl⟩, hH⟩
          simp only [List.cons_append, List.nil_append, List.eraseIdx_cons_zero, List.eraseIdx_cons_succ, List.set_cons_zero, List.set_cons_succ] at hH
          subst hH
          refine ops_ro' rfl (ro_pick rfl rfl) rfl ?_
          refine ops_ro' rfl (ro_assign rfl) rfl ?_
          refine ops_nil ?_
          refine Then_normal ?_
          refine wp_ret' ?_
          refine' doneS_ret (res1 rfl rfl) ?_ ?_
          rotate_left 1
          exact ⟨rfl, W, hsW, rfl⟩
          exact SubH.refl _
theorem negocuts_tri (V : HProp) (hM : Ml V) (s : List UInt8) (x : Li) (hx : x.Ok V) (cut : Int) (hcut1 : -9223372036854775808 ≤ cut ∧ cut ≤ 9223372036854775807) (p3 : Option Addr) (c3 : Nat) (mr : List UInt8) (hV3 : Vw V (.slice p3 mr.length c3) mr.length (cel mr)) (hm3 : mr.length ≤ 140737488351232) :
    Tri Tryd.prog 9 [.string (str s), x.v, .int .i64 cut, .slice p3 mr.length c3] [V] (fun v H' => v = .bool true ∧ H' = [V]) :=
  tri_weak (ncuts_run V hM s x hx cut hcut1 p3 c3 mr hV3 hm3) fun v H ⟨h1, W, h2, h3⟩ => ⟨[V], ⟨h1, rfl⟩, fun w F s => h2 w F (h3 ▸ s)⟩

end Go.Proofs.YtigaolglnnjnmaaDoor
