/-
  The walk of NegoBack.
-/
import Derived.Test.YtigaolglnnjnmaaDoorNgN
namespace Go.Proofs.YtigaolglnnjnmaaDoor
open Go.Sx
set_option linter.unusedVariables false
set_option linter.unusedSimpArgs false
set_option maxRecDepth 100000
set_option maxHeartbeats 4000000

theorem all_snoc {l : List (List UInt8)} {x : List UInt8} (h : l.all nmOk = true) (hx : nmOk x = true) : (l ++ [x]).all nmOk = true := by rw [List.all_append, h]; simp [hx]
theorem mem_hit {tl : List (List UInt8)} {x : List UInt8} {n : Nat} (hn : n < tl.length) (h : tl[n] = x) : x ∈ tl := by rw [← h]; exact List.getElem_mem hn
theorem mem_no {tl : List (List UInt8)} {x : List UInt8} {n : Nat} {g f : Int} {k : Nat} (hn : n < tl.length) (h : ¬ tl[n] = x) (hg : (g = f ∧ x ∉ tl.take n) ∨ (g = ((k : Nat) : Int) ∧ x ∈ tl)) : (g = f ∧ x ∉ tl.take (n + 1)) ∨ (g = ((k : Nat) : Int) ∧ x ∈ tl) := by
  rcases hg with ⟨h1, h2⟩ | h1
  · refine .inl ⟨h1, ?_⟩
    rw [List.take_succ_eq_append_getElem hn, List.mem_append, List.mem_singleton]
    rintro (h3 | h3)
    · exact h2 h3
    · exact h h3.symm
  · exact .inr h1
theorem fst_step {sl tl : List (List UInt8)} {k : Nat} {f g : Int} (hk : k < sl.length) (hf : Fst sl tl (k + 1) f) (hg : (g = f ∧ sl[k] ∉ tl) ∨ (g = ((k : Nat) : Int) ∧ sl[k] ∈ tl)) : Fst sl tl k g := by
  rcases hg with ⟨h1, h2⟩ | ⟨h1, h2⟩
  · rw [h1]; exact Fst.no hk h2 hf
  · rw [h1]; exact Fst.hit hk h2
theorem nback_run (V : HProp) (hM : Ml V) (s : List UInt8) (p1 : Option Addr) (c1 : Nat) (bh : List UInt8) (hV1 : Vw V (.slice p1 bh.length c1) bh.length (cel bh)) (hm1 : bh.length ≤ 140737488351232) (x : Li) (hx : x.Ok V) (o : Li) (ho : o.Ok V) :
    Tri Tryd.prog 8 [.string (str s), .slice p1 bh.length c1, x.v, o.v] [V] (fun v H' => v = .bool true ∧ ∃ W, SubH [W] [V] ∧ H' = [W]) := by
  refine tri_of_wpS Tryd.func8 rfl Tryd.ntmps8 (by simp) ?_
  refine wp_seq' ?_
  refine wp_region' ?_
  refine ops_eff' rfl (eff_box rfl) rfl ?_
  rintro _ _ ⟨b6, rfl, rfl⟩
  refine ops_eff' rfl (eff_box rfl) rfl ?_
  rintro _ _ ⟨b7, rfl, rfl⟩
  refine ops_ro' rfl (ro_assign rfl) rfl ?_
  refine ops_nil ?_
  refine Then_normal ?_
  refine wp_seq' ?_
  refine wp_region' ?_
  refine ops_ro' rfl (ro_loadA ag46 rfl (RdN.of_pick 1 rfl rdn_all) (lcs_len hx.len)) rfl ?_
  refine ops_eff' rfl (eff_call Tryd.call23 rfl rfl (by repeat (first | exact Split.nil _ | apply Split.cons 0 rfl | apply Split.cons 1 rfl | apply Split.cons 2 rfl | apply Split.cons 3 rfl | apply Split.cons 4 rfl | apply Split.cons 5 rfl | apply Split.cons 6 rfl | apply Split.cons 7 rfl | apply Split.cons 8 rfl | apply Split.cons 9 rfl | apply Split.cons 10 rfl | apply Split.cons 11 rfl)) (short9_spec V x hx)) rfl ?_
  rintro _ H' ⟨_, ⟨U, y, rfl, hy, hys, hsub1, rfl⟩, hH⟩
  simp only [List.cons_append, List.nil_append, List.eraseIdx_cons_zero, List.eraseIdx_cons_succ, List.set_cons_zero, List.set_cons_succ] at hH
  subst hH
  refine ops_eff0 rfl (eff_storeA 2 ag46 rfl rfl (lcs_len hy.len) (lcs_one rfl) rfl (li_le hx.len hy.len) (warm_zero _)) rfl ?_
  rintro _ _ rfl
  simp only [List.set_cons_zero, List.set_cons_succ]
  rw [over_all (li_eq hx.len hy.len)]
  refine ops_nil ?_
  refine Then_normal ?_
  refine wp_seq' ?_
  refine wp_region' ?_
  refine ops_ro' rfl (ro_loadA ag46 rfl (RdN.of_pick 1 rfl rdn_all) (lcs_len ho.len)) rfl ?_
  refine ops_eff' rfl (eff_call Tryd.call23 rfl rfl (by repeat (first | exact Split.nil _ | apply Split.cons 0 rfl | apply Split.cons 1 rfl | apply Split.cons 2 rfl | apply Split.cons 3 rfl | apply Split.cons 4 rfl | apply Split.cons 5 rfl | apply Split.cons 6 rfl | apply Split.cons 7 rfl | apply Split.cons 8 rfl | apply Split.cons 9 rfl | apply Split.cons 10 rfl | apply Split.cons 11 rfl)) (short9_spec U o (ho.sub hsub1))) rfl ?_
  rintro _ H' ⟨_, ⟨U2, oy, rfl, hoy, hoys, hsub2, rfl⟩, hH⟩
  simp only [List.cons_append, List.nil_append, List.eraseIdx_cons_zero, List.eraseIdx_cons_succ, List.set_cons_zero, List.set_cons_succ] at hH
  subst hH
  replace hy := hy.sub hsub2
  have hsub := hsub2.trans hsub1
  have hMU2 := ml_sub hsub hM
  refine ops_eff0 rfl (eff_storeA 1 ag46 rfl rfl (lcs_len hoy.len) (lcs_one rfl) rfl (li_le ho.len hoy.len) (warm_zero _)) rfl ?_
  rintro _ _ rfl
  simp only [List.set_cons_zero, List.set_cons_succ]
  rw [over_all (li_eq ho.len hoy.len)]
  refine ops_nil ?_
  refine Then_normal ?_
  refine wp_seq' ?_
  refine wp_region' ?_
  refine ops_ro' rfl (ro_fieldAddr fa46_0 rfl) rfl ?_
  refine ops_ro' rfl (ro_load sc22 rfl (Rd.pick 2 rfl (Rd.own rfl))) rfl ?_
  refine ops_eff' rfl (eff_callM (Pre := []) Tryd.call10 rfl rfl (Split.nil _) (sized16 y.cp y.cc y.ck (by first | exact (Vw.pick 0 rfl hvW) | exact (Vw.pick 1 rfl hvW) | exact (Vw.pick 2 rfl hvW) | exact (Vw.pick 3 rfl hvW) | exact (Vw.pick 4 rfl hvW) | exact (Vw.pick 5 rfl hvW) | exact (Vw.pick 6 rfl hvW) | exact (Vw.pick 7 rfl hvW) | exact (Vw.pick 0 rfl hy.ck) | exact (Vw.pick 1 rfl hy.ck) | exact (Vw.pick 2 rfl hy.ck) | exact (Vw.pick 3 rfl hy.ck) | exact (Vw.pick 4 rfl hy.ck) | exact (Vw.pick 5 rfl hy.ck) | exact (Vw.pick 6 rfl hy.ck) | exact (Vw.pick 7 rfl hy.ck) | exact (Vw.pick 0 rfl hsv1) | exact (Vw.pick 1 rfl hsv1) | exact (Vw.pick 2 rfl hsv1) | exact (Vw.pick 3 rfl hsv1) | exact (Vw.pick 4 rfl hsv1) | exact (Vw.pick 5 rfl hsv1) | exact (Vw.pick 6 rfl hsv1) | exact (Vw.pick 7 rfl hsv1) | exact (Vw.pick 0 rfl htv1) | exact (Vw.pick 1 rfl htv1) | exact (Vw.pick 2 rfl htv1) | exact (Vw.pick 3 rfl htv1) | exact (Vw.pick 4 rfl htv1) | exact (Vw.pick 5 rfl htv1) | exact (Vw.pick 6 rfl htv1) | exact (Vw.pick 7 rfl htv1) | exact Vw.pick 0 rfl Vw.row | exact Vw.pick 1 rfl Vw.row | exact Vw.pick 2 rfl Vw.row | exact Vw.pick 3 rfl Vw.row | exact Vw.pick 4 rfl Vw.row | exact Vw.pick 5 rfl Vw.row | exact Vw.pick 6 rfl Vw.row | exact Vw.pick 7 rfl Vw.row | exact Vw.nil _ | exact Vw.empty _ _) (by have := hys.ck; omega))) rfl ?_
  rintro _ H' ⟨_, ⟨b33, zz, rfl, hzl, rfl⟩, hH⟩
  simp only [List.cons_append, List.nil_append, List.eraseIdx_cons_zero, List.eraseIdx_cons_succ, List.set_cons_zero, List.set_cons_succ] at hH
  subst hH
  refine ops_ro' rfl (ro_fieldAddr fa46_0 rfl) rfl ?_
  refine ops_eff0 rfl (eff_store 3 sc22 rfl rfl rfl rfl (li_pos hy.len) (warm_zero _)) rfl ?_
  rintro _ _ rfl
  simp only [List.set_cons_zero, List.set_cons_succ]
  refine ops_sub' (L := [own b6 (.cells (lcs (.slice (some ⟨b33, 0, none⟩) zz.length zz.length) y.ns y.f).toArray 46 (0, 0)), own b7 (.cells (oy.cs).toArray 46 (0, 0))] ++ [row 5 1 (.slice (some ⟨b33, 0, none⟩) zz.length zz.length) zz.length (cel zz), U2]) (by repeat (first | exact SubH.nil _ | refine SubH.cons 0 rfl ?_ | refine SubH.cons 1 rfl ?_ | refine SubH.cons 2 rfl ?_ | refine SubH.cons 3 rfl ?_ | refine SubH.cons 4 rfl ?_ | refine SubH.cons 5 rfl ?_ | refine SubH.cons 6 rfl ?_ | refine SubH.cons 7 rfl ?_ | refine SubH.cons 8 rfl ?_ | refine SubH.cons 9 rfl ?_ | refine SubH.cons 10 rfl ?_ | refine SubH.cons 11 rfl ?_ | refine SubH.cons 12 rfl ?_ | refine SubH.cons 13 rfl ?_ | refine SubH.rown ?_)) ?_
  refine pack2 fun W hW => ?_
  simp only [List.cons_append, List.nil_append]
  obtain ⟨z, hz1, hz2, hz3, hz4, -⟩ := z_new (b := b33) hy hys hzl
  rw [hz1]
  rw [← hW] at hz2
  have hMW : Ml W := by subst hW; exact Ml.pick 1 rfl hMU2
  have hsW2 : SubH [W] [U2] := by subst hW; exact sub_pk (SubH.cons 1 rfl (SubH.nil _))
  have hsW : SubH [W] [V] := hsW2.trans hsub
  have hvW := vw_sub hsW hV1
  replace hoy := hoy.sub hsW2
  clear hW hz1
  refine ops_nil ?_
  refine Then_normal ?_
  refine wp_seq' ?_
  refine wp_region' ?_
  refine ops_ro' rfl (ro_move rfl) rfl ?_
  refine ops_eff' rfl (eff_call Tryd.call20 rfl rfl (by repeat (first | exact Split.nil _ | apply Split.cons 0 rfl | apply Split.cons 1 rfl | apply Split.cons 2 rfl | apply Split.cons 3 rfl | apply Split.cons 4 rfl | apply Split.cons 5 rfl | apply Split.cons 6 rfl | apply Split.cons 7 rfl | apply Split.cons 8 rfl | apply Split.cons 9 rfl | apply Split.cons 10 rfl | apply Split.cons 11 rfl)) (kHead s 260)) rfl ?_
  rintro _ H' ⟨_, ⟨rfl, rfl⟩, hH⟩
  simp only [List.cons_append, List.nil_append, List.eraseIdx_cons_zero, List.eraseIdx_cons_succ, List.set_cons_zero, List.set_cons_succ] at hH
  subst hH
  refine ops_eff' rfl (eff_call Tryd.call24 rfl rfl (by repeat (first | exact Split.nil _ | apply Split.cons 0 rfl | apply Split.cons 1 rfl | apply Split.cons 2 rfl | apply Split.cons 3 rfl | apply Split.cons 4 rfl | apply Split.cons 5 rfl | apply Split.cons 6 rfl | apply Split.cons 7 rfl | apply Split.cons 8 rfl | apply Split.cons 9 rfl | apply Split.cons 10 rfl | apply Split.cons 11 rfl)) (line_spec (s.take 260) (by rw [List.length_take]; omega))) rfl ?_
  rintro _ H' ⟨_, ⟨p38, c38, ln, e1, rfl, hln, rfl⟩, hH⟩
  simp only [List.cons_append, List.nil_append, List.eraseIdx_cons_zero, List.eraseIdx_cons_succ, List.set_cons_zero, List.set_cons_succ] at hH
  subst hH
  replace hln := line_back hln
  refine ops_ro' rfl (ro_move rfl) rfl ?_
  refine ops_ro' rfl (ro_extract rfl rfl) rfl ?_
  refine ops_ro' rfl (ro_extract rfl rfl) rfl ?_
  refine ops_ro' rfl (ro_assign rfl) rfl ?_
  refine ops_ro' rfl (ro_assign rfl) rfl ?_
  refine ops_nil ?_
  refine Then_normal ?_
  refine wp_cutK 1009 (fun Δ LL => Δ = [] ∧ LL = [own b6 (.cells (z.cs).toArray 46 (0, 0)), own b7 (.cells (oy.cs).toArray 46 (0, 0)), W]) (Has.cons (k := 6) rfl (Has.cons (k := 7) rfl (Has.nil _))) ?_ ?_
  · refine wp_seq' ?_
    refine wp_region' ?_
    refine ops_ro' rfl (ro_move rfl) rfl ?_
    refine ops_ro' rfl (ro_eql rfl rfl rfl) rfl ?_
    refine ops_nil ?_
    refine Then_normal ?_
    refine wp_cond' rfl (fun hc42 => ?_) (fun hc42 => ?_)
    · replace hc42 := of_decide_eq_true hc42
      obtain ⟨hbk, hl2, hl3⟩ := hln (by omega)
      refine wp_seq' ?_
      refine wp_region' ?_
      refine ops_eff' rfl (eff_lit sl22 rfl (sbld (cs := []) [] sl22 (by decide) (by kernel_rfl) rfl) rfl (by decide)) rfl ?_
      rintro _ _ ⟨b44, rfl, rfl⟩
      refine ops_ro' rfl (ro_move rfl) rfl ?_
      refine ops_eff' rfl (eff_appB (l := []) (l2 := ln) 0 sl22 (.inl ⟨5, Tryd.underlying22⟩) rfl rfl rfl (by first | exact Src.strl | exact Src.celv (Vw.pick 0 rfl hvW) | exact Src.celv (Vw.pick 1 rfl hvW) | exact Src.celv (Vw.pick 2 rfl hvW) | exact Src.celv (Vw.pick 3 rfl hvW) | exact Src.celv (Vw.pick 4 rfl hvW) | exact Src.celv (Vw.pick 5 rfl hvW) | exact Src.celv (Vw.pick 6 rfl hvW) | exact Src.celv (Vw.pick 7 rfl hvW) | exact Src.celv (Vw.pick 0 rfl hy.ck) | exact Src.celv (Vw.pick 1 rfl hy.ck) | exact Src.celv (Vw.pick 2 rfl hy.ck) | exact Src.celv (Vw.pick 3 rfl hy.ck) | exact Src.celv (Vw.pick 4 rfl hy.ck) | exact Src.celv (Vw.pick 5 rfl hy.ck) | exact Src.celv (Vw.pick 6 rfl hy.ck) | exact Src.celv (Vw.pick 7 rfl hy.ck) | exact Src.celv (Vw.pick 0 rfl hsv1) | exact Src.celv (Vw.pick 1 rfl hsv1) | exact Src.celv (Vw.pick 2 rfl hsv1) | exact Src.celv (Vw.pick 3 rfl hsv1) | exact Src.celv (Vw.pick 4 rfl hsv1) | exact Src.celv (Vw.pick 5 rfl hsv1) | exact Src.celv (Vw.pick 6 rfl hsv1) | exact Src.celv (Vw.pick 7 rfl hsv1) | exact Src.celv (Vw.pick 0 rfl htv1) | exact Src.celv (Vw.pick 1 rfl htv1) | exact Src.celv (Vw.pick 2 rfl htv1) | exact Src.celv (Vw.pick 3 rfl htv1) | exact Src.celv (Vw.pick 4 rfl htv1) | exact Src.celv (Vw.pick 5 rfl htv1) | exact Src.celv (Vw.pick 6 rfl htv1) | exact Src.celv (Vw.pick 7 rfl htv1) | exact Src.celv (Vw.pick 0 rfl Vw.row) | exact Src.celv (Vw.pick 1 rfl Vw.row) | exact Src.celv (Vw.pick 2 rfl Vw.row) | exact Src.celv (Vw.pick 3 rfl Vw.row) | exact Src.celv (Vw.pick 4 rfl Vw.row) | exact Src.celv (Vw.pick 5 rfl Vw.row) | exact Src.celv (Vw.pick 6 rfl Vw.row) | exact Src.celv (Vw.pick 7 rfl Vw.row)) (by first | omega | (simp only [List.length_append, List.length_cons, List.length_nil, List.length_take, List.length_drop] at *; omega))) rfl ?_
      rintro _ _ ⟨p46, c46, rfl, hn46, rfl⟩
      simp only [List.set_cons_zero, List.set_cons_succ, List.nil_append]
      refine ops_ro' rfl (ro_move rfl) rfl ?_
      refine ops_eff' rfl (eff_appB (l2 := bh) 0 sl22 (.inl ⟨5, Tryd.underlying22⟩) rfl rfl rfl (by first | exact Src.strl | exact Src.celv (Vw.pick 0 rfl hvW) | exact Src.celv (Vw.pick 1 rfl hvW) | exact Src.celv (Vw.pick 2 rfl hvW) | exact Src.celv (Vw.pick 3 rfl hvW) | exact Src.celv (Vw.pick 4 rfl hvW) | exact Src.celv (Vw.pick 5 rfl hvW) | exact Src.celv (Vw.pick 6 rfl hvW) | exact Src.celv (Vw.pick 7 rfl hvW) | exact Src.celv (Vw.pick 0 rfl hy.ck) | exact Src.celv (Vw.pick 1 rfl hy.ck) | exact Src.celv (Vw.pick 2 rfl hy.ck) | exact Src.celv (Vw.pick 3 rfl hy.ck) | exact Src.celv (Vw.pick 4 rfl hy.ck) | exact Src.celv (Vw.pick 5 rfl hy.ck) | exact Src.celv (Vw.pick 6 rfl hy.ck) | exact Src.celv (Vw.pick 7 rfl hy.ck) | exact Src.celv (Vw.pick 0 rfl hsv1) | exact Src.celv (Vw.pick 1 rfl hsv1) | exact Src.celv (Vw.pick 2 rfl hsv1) | exact Src.celv (Vw.pick 3 rfl hsv1) | exact Src.celv (Vw.pick 4 rfl hsv1) | exact Src.celv (Vw.pick 5 rfl hsv1) | exact Src.celv (Vw.pick 6 rfl hsv1) | exact Src.celv (Vw.pick 7 rfl hsv1) | exact Src.celv (Vw.pick 0 rfl htv1) | exact Src.celv (Vw.pick 1 rfl htv1) | exact Src.celv (Vw.pick 2 rfl htv1) | exact Src.celv (Vw.pick 3 rfl htv1) | exact Src.celv (Vw.pick 4 rfl htv1) | exact Src.celv (Vw.pick 5 rfl htv1) | exact Src.celv (Vw.pick 6 rfl htv1) | exact Src.celv (Vw.pick 7 rfl htv1) | exact Src.celv (Vw.pick 0 rfl Vw.row) | exact Src.celv (Vw.pick 1 rfl Vw.row) | exact Src.celv (Vw.pick 2 rfl Vw.row) | exact Src.celv (Vw.pick 3 rfl Vw.row) | exact Src.celv (Vw.pick 4 rfl Vw.row) | exact Src.celv (Vw.pick 5 rfl Vw.row) | exact Src.celv (Vw.pick 6 rfl Vw.row) | exact Src.celv (Vw.pick 7 rfl Vw.row)) (by first | omega | (simp only [List.length_append, List.length_cons, List.length_nil, List.length_take, List.length_drop] at *; omega))) rfl ?_
      rintro _ _ ⟨p48, c48, rfl, hn48, rfl⟩
      simp only [List.set_cons_zero, List.set_cons_succ]
      refine ops_know (fun w F s => row_caps 0 rfl s) ?_
      intro hc48
      refine ops_eff' rfl (eff_callM (Pre := []) Tryd.call25 rfl rfl (Split.nil _) (ngVersion_spec _ (by first | exact Ml.pick 0 rfl hMW | exact Ml.pick 1 rfl hMW | exact Ml.pick 2 rfl hMW | exact Ml.pick 3 rfl hMW | exact Ml.pick 4 rfl hMW | exact Ml.pick 5 rfl hMW) p48 c48 (ln ++ bh) (by first | exact (Vw.pick 0 rfl hvW) | exact (Vw.pick 1 rfl hvW) | exact (Vw.pick 2 rfl hvW) | exact (Vw.pick 3 rfl hvW) | exact (Vw.pick 4 rfl hvW) | exact (Vw.pick 5 rfl hvW) | exact (Vw.pick 6 rfl hvW) | exact (Vw.pick 7 rfl hvW) | exact (Vw.pick 0 rfl hy.ck) | exact (Vw.pick 1 rfl hy.ck) | exact (Vw.pick 2 rfl hy.ck) | exact (Vw.pick 3 rfl hy.ck) | exact (Vw.pick 4 rfl hy.ck) | exact (Vw.pick 5 rfl hy.ck) | exact (Vw.pick 6 rfl hy.ck) | exact (Vw.pick 7 rfl hy.ck) | exact (Vw.pick 0 rfl hsv1) | exact (Vw.pick 1 rfl hsv1) | exact (Vw.pick 2 rfl hsv1) | exact (Vw.pick 3 rfl hsv1) | exact (Vw.pick 4 rfl hsv1) | exact (Vw.pick 5 rfl hsv1) | exact (Vw.pick 6 rfl hsv1) | exact (Vw.pick 7 rfl hsv1) | exact (Vw.pick 0 rfl htv1) | exact (Vw.pick 1 rfl htv1) | exact (Vw.pick 2 rfl htv1) | exact (Vw.pick 3 rfl htv1) | exact (Vw.pick 4 rfl htv1) | exact (Vw.pick 5 rfl htv1) | exact (Vw.pick 6 rfl htv1) | exact (Vw.pick 7 rfl htv1) | exact Vw.pick 0 rfl Vw.row | exact Vw.pick 1 rfl Vw.row | exact Vw.pick 2 rfl Vw.row | exact Vw.pick 3 rfl Vw.row | exact Vw.pick 4 rfl Vw.row | exact Vw.pick 5 rfl Vw.row | exact Vw.pick 6 rfl Vw.row | exact Vw.pick 7 rfl Vw.row | exact Vw.nil _ | exact Vw.empty _ _) hc48 (by rw [List.length_append]; omega))) rfl ?_
      rintro _ H' ⟨_, ⟨rfl, rfl⟩, hH⟩
      simp only [List.cons_append, List.nil_append, List.eraseIdx_cons_zero, List.eraseIdx_cons_succ, List.set_cons_zero, List.set_cons_succ] at hH
      subst hH
      rw [hbk bh]
      refine ops_ro' rfl (ro_move rfl) rfl ?_
      refine ops_ro' rfl (ro_extract rfl rfl) rfl ?_
      refine ops_ro' rfl (ro_extract rfl rfl) rfl ?_
      refine ops_ro' rfl (ro_extract rfl rfl) rfl ?_
      refine ops_ro' rfl (ro_assign rfl) rfl ?_
      refine ops_ro' rfl (ro_assign rfl) rfl ?_
      refine ops_ro' rfl (ro_assign rfl) rfl ?_
      refine ops_nil ?_
      refine Then_normal ?_
      refine wp_seq' ?_
      refine wp_region' ?_
      refine ops_ro' rfl (ro_move rfl) rfl ?_
      refine ops_ro' rfl (ro_move rfl) rfl ?_
      refine ops_ro' rfl (ro_neqS rfl rfl (decide_eq_false (fun h => h rfl))) rfl ?_
      refine ops_ro' rfl (ro_move (v := .bool false) rfl) rfl ?_
      refine ops_ro' rfl (ro_move rfl) rfl ?_
      refine ops_ro' rfl (ro_move rfl) rfl ?_
      refine ops_ro' rfl (ro_sliceLen Tryd.underlying22 rfl) rfl ?_
      refine ops_ro' rfl (ro_neq rfl rfl rfl) rfl ?_
      refine ops_ro' rfl (ro_pick rfl rfl) rfl ?_
      refine ops_split rfl rfl rfl (fun hg62 => ?_) (fun hg62 => ?_)
      · replace hg62 := of_decide_eq_true hg62
        dsimp only at hg62
        exfalso; omega
      · replace hg62 := of_decide_eq_false hg62
        dsimp only at hg62
        refine ops_ro' rfl (ro_move rfl) rfl ?_
        refine ops_ro' rfl (ro_neq rfl rfl rfl) rfl ?_
        refine ops_ro' rfl (ro_pick rfl rfl) rfl ?_
        refine ops_nil ?_
        refine Then_normal ?_
        refine wp_condF rfl ?_
        refine wp_skip' ?_
        refine Then_normal ?_
        refine over_cut (kept ⟨rfl, rfl⟩ ?_ ?_ ?_)
        · exact (by repeat (first | exact Has.nil _ | refine Has.cons rfl ?_))
        · exact (by repeat (first | exact Has.nil _ | refine Has.cons rfl ?_))
        · exact (SubH.cons 2 rfl (SubH.cons 2 rfl (SubH.cons 2 rfl (SubH.nil _))))
    · replace hc42 := of_decide_eq_false hc42
      refine wp_skip' ?_
      refine Then_normal ?_
      refine over_cut (kept ⟨rfl, rfl⟩ ?_ ?_ ?_)
      · exact (by repeat (first | exact Has.nil _ | refine Has.cons rfl ?_))
      · exact (by repeat (first | exact Has.nil _ | refine Has.cons rfl ?_))
      · exact (SubH.cons 1 rfl (SubH.cons 1 rfl (SubH.cons 1 rfl (SubH.nil _))))
  · rintro Δ LL ⟨rfl, rfl⟩
    simp only [List.cons_append, List.nil_append]
    refine wp_seq' ?_
    refine wp_seq' ?_
    refine wp_region' ?_
    refine ops_ro' rfl (ro_assign rfl) rfl ?_
    refine ops_nil ?_
    refine Then_normal ?_
    refine wp_block' ?_
    refine wp_loopK 10 (fun m Δ LL => ∃ (i : Nat) (ns : List Lt) (U : HProp), (i + m = 10 ∧ Fl W U z.ns ns i) ∧ Δ = [(14, .int .i64 (i : Nat))] ∧ LL = [own b6 (.cells (lcs (.slice z.cp z.ck.length z.cc) ns z.f).toArray 46 (0, 0)), own b7 (.cells (oy.cs).toArray 46 (0, 0)), U]) (m := 10) (Has.cons (k := 6) rfl (Has.cons (k := 7) rfl (Has.nil _))) (kept ⟨0, z.ns, W, ⟨rfl, Fl.zero hz2.len⟩, rfl, rfl⟩ (by repeat (first | exact Has.nil _ | refine Has.cons rfl ?_)) (by repeat (first | exact Has.nil _ | refine Has.cons rfl ?_)) (by repeat (first | exact SubH.nil _ | refine SubH.cons 0 rfl ?_ | refine SubH.cons 1 rfl ?_ | refine SubH.cons 2 rfl ?_ | refine SubH.cons 3 rfl ?_ | refine SubH.cons 4 rfl ?_ | refine SubH.cons 5 rfl ?_ | refine SubH.cons 6 rfl ?_ | refine SubH.cons 7 rfl ?_ | refine SubH.cons 8 rfl ?_ | refine SubH.cons 9 rfl ?_ | refine SubH.cons 10 rfl ?_ | refine SubH.cons 11 rfl ?_ | refine SubH.cons 12 rfl ?_ | refine SubH.cons 13 rfl ?_ | refine SubH.rown ?_))) ?_
    rintro m Δ LL ⟨i, ns, U, ⟨hm, hf⟩, rfl, rfl⟩
    simp only [List.cons_append, List.nil_append]
    refine wp_seq' ?_
    refine wp_seq' ?_
    refine wp_region' ?_
    refine ops_ro' rfl (ro_move rfl) rfl ?_
    refine ops_ro' rfl (ro_lss rfl rfl rfl) rfl ?_
    refine ops_nil ?_
    refine Then_normal ?_
    refine wp_cond' rfl (fun hc67 => ?_) (fun hc67 => ?_)
    · replace hc67 := of_decide_eq_true hc67
      have hi : i < ns.length := by rw [hf.len]; omega
      obtain ⟨s1, hs1⟩ : ∃ s1, ns[i]? = some s1 := ⟨_, List.getElem?_eq_getElem hi⟩
      have hs0 := hs1
      rw [hf.rest i (Nat.le_refl _)] at hs0
      have hsv := (hz2.ns s1 (List.mem_of_getElem? hs0)).sub hf.sub
      have hsm := hz3.ns s1 (List.mem_of_getElem? hs0)
      clear hs0
      obtain ⟨sp, sc, sl⟩ := s1
      have hsv1 : Vw U (.slice sp sl.length sc) sl.length (txs sl) := hsv.1
      have hsm1 : sl.length ≤ 6 := hsm.1
      have hsm2 : ∀ t ∈ sl, t.length ≤ 66 := hsm.2
      refine wp_skip' ?_
      refine Then_normal ?_
      refine wp_seq' ?_
      refine wp_block' ?_
      refine wp_seq' ?_
      refine wp_region' ?_
      refine ops_ro' rfl (ro_assign rfl) rfl ?_
      refine ops_nil ?_
      refine Then_normal ?_
      refine wp_seq' ?_
      refine wp_seq' ?_
      refine wp_region' ?_
      refine ops_ro' rfl (ro_assign rfl) rfl ?_
      refine ops_nil ?_
      refine Then_normal ?_
      refine wp_block' ?_
      refine wp_loopK 14 (fun m Δ LL => ∃ (k : Nat) (p15 : Option Addr) (c15 : Nat) (acc : List (List UInt8)), (k + m = sl.length ∧ acc.all nmOk = true ∧ acc.length ≤ k ∧ ∀ t ∈ acc, t.length ≤ 66) ∧ Δ = [(15, .slice p15 acc.length c15), (16, .int .i64 (k : Nat))] ∧ LL = [row 9 1 (.slice p15 acc.length c15) acc.length (txs acc), own b6 (.cells (lcs (.slice z.cp z.ck.length z.cc) ns z.f).toArray 46 (0, 0)), own b7 (.cells (oy.cs).toArray 46 (0, 0)), U]) (m := sl.length) (Has.cons (k := 6) rfl (Has.cons (k := 7) rfl (Has.cons (k := 14) rfl (Has.nil _)))) (kept ⟨0, none, 0, [], ⟨by omega, rfl, Nat.le_refl _, fun t ht => by cases ht⟩, rfl, rfl⟩ (by repeat (first | exact Has.nil _ | refine Has.cons rfl ?_)) (by repeat (first | exact Has.nil _ | refine Has.cons rfl ?_)) (by repeat (first | exact SubH.nil _ | refine SubH.cons 0 rfl ?_ | refine SubH.cons 1 rfl ?_ | refine SubH.cons 2 rfl ?_ | refine SubH.cons 3 rfl ?_ | refine SubH.cons 4 rfl ?_ | refine SubH.cons 5 rfl ?_ | refine SubH.cons 6 rfl ?_ | refine SubH.cons 7 rfl ?_ | refine SubH.cons 8 rfl ?_ | refine SubH.cons 9 rfl ?_ | refine SubH.cons 10 rfl ?_ | refine SubH.cons 11 rfl ?_ | refine SubH.cons 12 rfl ?_ | refine SubH.cons 13 rfl ?_ | refine SubH.rown ?_))) ?_
      rintro m2 Δ LL ⟨k, p15, c15, acc, ⟨hkm, hacc1, hacc2, hacc3⟩, rfl, rfl⟩
      simp only [List.cons_append, List.nil_append]
      refine wp_seq' ?_
      refine wp_seq' ?_
      refine wp_region' ?_
      refine ops_ro' rfl (ro_move rfl) rfl ?_
      refine ops_ro' rfl (ro_move rfl) rfl ?_
      refine ops_ro' rfl (ro_fieldAddr fa46_1 rfl) rfl ?_
      refine ops_ro' rfl (ro_indexArr Tryd.underlying44 (fun w => Tryd.sizeOf24 w) rfl rfl rfl (by omega)) rfl ?_
      refine ops_ro' rfl (ro_load sc24 rfl (Rd.pick 1 rfl (Rd.own (lcs_at2 hs1)))) rfl ?_
      refine ops_ro' rfl (ro_sliceLen Tryd.underlying24 rfl) rfl ?_
      refine ops_ro' rfl (ro_lss rfl rfl rfl) rfl ?_
      refine ops_nil ?_
      refine Then_normal ?_
      refine wp_cond' rfl (fun hc76 => ?_) (fun hc76 => ?_)
      · replace hc76 := of_decide_eq_true hc76
        dsimp only at hc76
        have hk : k < sl.length := by omega
        have hk66 := hsm2 _ (List.getElem_mem hk)
        refine wp_know (fun w F s => vw_ptr (Vw.pick (H := [_, _, _, U]) 3 rfl hsv1) s (by omega)) ?_
        rintro ⟨b0, o0, rfl⟩
        refine wp_skip' ?_
        refine Then_normal ?_
        refine wp_seq' ?_
        refine wp_block' ?_
        refine wp_seq' ?_
        refine wp_region' ?_
        refine ops_ro' rfl (ro_move rfl) rfl ?_
        refine ops_ro' rfl (ro_fieldAddr fa46_1 rfl) rfl ?_
        refine ops_ro' rfl (ro_indexArr Tryd.underlying44 (fun w => Tryd.sizeOf24 w) rfl rfl rfl (by omega)) rfl ?_
        refine ops_ro' rfl (ro_load sc24 rfl (Rd.pick 1 rfl (Rd.own (lcs_at2 hs1)))) rfl ?_
        refine ops_ro' rfl (ro_move rfl) rfl ?_
        refine ops_ro' rfl (ro_indexSlice sl24 rfl rfl rfl (by omega)) rfl ?_
        refine ops_ro' rfl (ro_load sc9 rfl (Rd.pick 3 rfl (Rd.elem (j := 0) (vw_rdn hsv1) Tx.len (List.getElem?_eq_getElem hk) rfl))) rfl ?_
        refine ops_eff' rfl (eff_call Tryd.call26 rfl rfl (by repeat (first | exact Split.nil _ | apply Split.cons 0 rfl | apply Split.cons 1 rfl | apply Split.cons 2 rfl | apply Split.cons 3 rfl | apply Split.cons 4 rfl | apply Split.cons 5 rfl | apply Split.cons 6 rfl | apply Split.cons 7 rfl | apply Split.cons 8 rfl | apply Split.cons 9 rfl | apply Split.cons 10 rfl | apply Split.cons 11 rfl)) (rRight_spec sl[k] (by omega))) rfl ?_
        rintro _ H' ⟨_, ⟨rfl, rfl⟩, hH⟩
        simp only [List.cons_append, List.nil_append, List.eraseIdx_cons_zero, List.eraseIdx_cons_succ, List.set_cons_zero, List.set_cons_succ] at hH
        subst hH
        refine ops_nil ?_
        refine Then_normal ?_
        refine wp_cond' rfl (fun hc86 => ?_) (fun hc86 => ?_)
        · skip
          refine wp_region' ?_
          refine ops_ro' rfl (ro_move rfl) rfl ?_
          refine ops_ro' rfl (ro_move rfl) rfl ?_
          refine ops_ro' rfl (ro_fieldAddr fa46_1 rfl) rfl ?_
          refine ops_ro' rfl (ro_indexArr Tryd.underlying44 (fun w => Tryd.sizeOf24 w) rfl rfl rfl (by omega)) rfl ?_
          refine ops_ro' rfl (ro_load sc24 rfl (Rd.pick 1 rfl (Rd.own (lcs_at2 hs1)))) rfl ?_
          refine ops_ro' rfl (ro_move rfl) rfl ?_
          refine ops_ro' rfl (ro_indexSlice sl24 rfl rfl rfl (by omega)) rfl ?_
          refine ops_ro' rfl (ro_load sc9 rfl (Rd.pick 3 rfl (Rd.elem (j := 0) (vw_rdn hsv1) Tx.len (List.getElem?_eq_getElem hk) rfl))) rfl ?_
          refine ops_eff' rfl (eff_lit sl24 rfl (sbld (cs := [_]) [(.string ByteArray.empty)] sl24 (by decide) (by kernel_rfl) rfl) rfl (by decide)) rfl ?_
          rintro _ _ ⟨b95, rfl, rfl⟩
          refine ops_eff' rfl (eff_appF (f := Tx.cs) (l2 := [sl[k]]) 1 sl24 (.inl ⟨9, Tryd.underlying24⟩) rfl rfl rfl (by first | exact Src.flatv Tx.len Tx.one (Vw.pick 0 rfl hvW) | exact Src.flatv Tx.len Tx.one (Vw.pick 1 rfl hvW) | exact Src.flatv Tx.len Tx.one (Vw.pick 2 rfl hvW) | exact Src.flatv Tx.len Tx.one (Vw.pick 3 rfl hvW) | exact Src.flatv Tx.len Tx.one (Vw.pick 4 rfl hvW) | exact Src.flatv Tx.len Tx.one (Vw.pick 5 rfl hvW) | exact Src.flatv Tx.len Tx.one (Vw.pick 6 rfl hvW) | exact Src.flatv Tx.len Tx.one (Vw.pick 7 rfl hvW) | exact Src.flatv Tx.len Tx.one (Vw.pick 0 rfl hy.ck) | exact Src.flatv Tx.len Tx.one (Vw.pick 1 rfl hy.ck) | exact Src.flatv Tx.len Tx.one (Vw.pick 2 rfl hy.ck) | exact Src.flatv Tx.len Tx.one (Vw.pick 3 rfl hy.ck) | exact Src.flatv Tx.len Tx.one (Vw.pick 4 rfl hy.ck) | exact Src.flatv Tx.len Tx.one (Vw.pick 5 rfl hy.ck) | exact Src.flatv Tx.len Tx.one (Vw.pick 6 rfl hy.ck) | exact Src.flatv Tx.len Tx.one (Vw.pick 7 rfl hy.ck) | exact Src.flatv Tx.len Tx.one (Vw.pick 0 rfl hsv1) | exact Src.flatv Tx.len Tx.one (Vw.pick 1 rfl hsv1) | exact Src.flatv Tx.len Tx.one (Vw.pick 2 rfl hsv1) | exact Src.flatv Tx.len Tx.one (Vw.pick 3 rfl hsv1) | exact Src.flatv Tx.len Tx.one (Vw.pick 4 rfl hsv1) | exact Src.flatv Tx.len Tx.one (Vw.pick 5 rfl hsv1) | exact Src.flatv Tx.len Tx.one (Vw.pick 6 rfl hsv1) | exact Src.flatv Tx.len Tx.one (Vw.pick 7 rfl hsv1) | exact Src.flatv Tx.len Tx.one (Vw.pick 0 rfl htv1) | exact Src.flatv Tx.len Tx.one (Vw.pick 1 rfl htv1) | exact Src.flatv Tx.len Tx.one (Vw.pick 2 rfl htv1) | exact Src.flatv Tx.len Tx.one (Vw.pick 3 rfl htv1) | exact Src.flatv Tx.len Tx.one (Vw.pick 4 rfl htv1) | exact Src.flatv Tx.len Tx.one (Vw.pick 5 rfl htv1) | exact Src.flatv Tx.len Tx.one (Vw.pick 6 rfl htv1) | exact Src.flatv Tx.len Tx.one (Vw.pick 7 rfl htv1) | exact Src.flatv Tx.len Tx.one (Vw.pick 0 rfl Vw.row) | exact Src.flatv Tx.len Tx.one (Vw.pick 1 rfl Vw.row) | exact Src.flatv Tx.len Tx.one (Vw.pick 2 rfl Vw.row) | exact Src.flatv Tx.len Tx.one (Vw.pick 3 rfl Vw.row) | exact Src.flatv Tx.len Tx.one (Vw.pick 4 rfl Vw.row) | exact Src.flatv Tx.len Tx.one (Vw.pick 5 rfl Vw.row) | exact Src.flatv Tx.len Tx.one (Vw.pick 6 rfl Vw.row) | exact Src.flatv Tx.len Tx.one (Vw.pick 7 rfl Vw.row)) (by simp only [List.length_cons, List.length_nil]; omega) (by simp only [List.length_cons, List.length_nil]; omega)) rfl ?_
          rintro _ _ ⟨p96, c96, rfl, hn96, rfl⟩
          simp only [List.set_cons_zero, List.set_cons_succ]
          refine ops_ro' rfl (ro_assign rfl) rfl ?_
          refine ops_nil ?_
          refine InBlock_normal ?_
          refine Then_normal ?_
          refine wp_region' ?_
          refine ops_ro' rfl (ro_move rfl) rfl ?_
          refine ops_ro' rfl (ro_add rfl rfl (wrap_inc (by omega))) rfl ?_
          refine ops_ro' rfl (ro_assign rfl) rfl ?_
          refine ops_nil ?_
          refine Then_normal ?_
          refine back (m2 - 1) (by omega) (kept ⟨k + 1, p96, c96, acc ++ [sl[k]], ⟨by omega, all_snoc hacc1 (by simpa using hc86), by simp; omega, fun t ht => by rcases List.mem_append.1 ht with h | h; exact hacc3 t h; rw [List.mem_singleton.1 h]; exact hsm2 _ (List.getElem_mem hk)⟩, rfl, rfl⟩ ?_ ?_ ?_)
          · exact (by repeat (first | exact Has.nil _ | refine Has.cons rfl ?_))
          · exact (by repeat (first | exact Has.nil _ | refine Has.cons rfl ?_))
          · exact (SubH.cons 1 rfl (SubH.cons 1 rfl (SubH.cons 1 rfl (SubH.cons 1 rfl (SubH.nil _)))))
        · skip
          refine wp_skip' ?_
          refine InBlock_normal ?_
          refine Then_normal ?_
          refine wp_region' ?_
          refine ops_ro' rfl (ro_move rfl) rfl ?_
          refine ops_ro' rfl (ro_add rfl rfl (wrap_inc (by omega))) rfl ?_
          refine ops_ro' rfl (ro_assign rfl) rfl ?_
          refine ops_nil ?_
          refine Then_normal ?_
          refine back (m2 - 1) (by omega) (kept ⟨k + 1, p15, c15, acc, ⟨by omega, hacc1, by omega, hacc3⟩, rfl, rfl⟩ ?_ ?_ ?_)
          · exact (by repeat (first | exact Has.nil _ | refine Has.cons rfl ?_))
          · exact (by repeat (first | exact Has.nil _ | refine Has.cons rfl ?_))
          · exact SubH.refl _
      · replace hc76 := of_decide_eq_false hc76
        dsimp only at hc76
        refine wp_exit' ?_
        refine Then_exit ?_
        refine Then_exit ?_
        refine InBlock_here ?_
        refine Then_normal ?_
        refine wp_region' ?_
        refine ops_ro' rfl (ro_move rfl) rfl ?_
        refine ops_ro' rfl (ro_move rfl) rfl ?_
        refine ops_ro' rfl (ro_fieldAddr fa46_1 rfl) rfl ?_
        refine ops_ro' rfl (ro_indexArr Tryd.underlying44 (fun w => Tryd.sizeOf24 w) rfl rfl rfl (by omega)) rfl ?_
        refine ops_eff0 rfl (eff_store 1 sc24 rfl rfl rfl rfl (by rw [lcs_len hf.len]; omega) (warm_zero _)) rfl ?_
        rintro _ _ rfl
        simp only [List.set_cons_zero, List.set_cons_succ]
        refine ops_know (fun w F s => row_caps 0 rfl s) ?_
        intro hcn
        rw [show (lcs (.slice z.cp z.ck.length z.cc) ns z.f).set (0 + 1 + i * 1) (.slice p15 acc.length c15) = _ from lcs_set (⟨p15, c15, acc⟩ : Lt) hi]
        refine ops_sub' (L := [own b6 (.cells (lcs (.slice z.cp z.ck.length z.cc) (ns.set i ⟨p15, c15, acc⟩) z.f).toArray 46 (0, 0)), own b7 (.cells (oy.cs).toArray 46 (0, 0))] ++ [row 9 1 (.slice p15 acc.length c15) acc.length (txs acc), U]) (by repeat (first | exact SubH.nil _ | refine SubH.cons 0 rfl ?_ | refine SubH.cons 1 rfl ?_ | refine SubH.cons 2 rfl ?_ | refine SubH.cons 3 rfl ?_ | refine SubH.cons 4 rfl ?_ | refine SubH.cons 5 rfl ?_ | refine SubH.cons 6 rfl ?_ | refine SubH.cons 7 rfl ?_ | refine SubH.cons 8 rfl ?_ | refine SubH.cons 9 rfl ?_ | refine SubH.cons 10 rfl ?_ | refine SubH.cons 11 rfl ?_ | refine SubH.cons 12 rfl ?_ | refine SubH.cons 13 rfl ?_ | refine SubH.rown ?_)) ?_
        refine pack2 fun U3 hU3 => ?_
        simp only [List.cons_append, List.nil_append]
        have hf3 := hf.next (U' := U3) (by omega) (by subst hU3; exact sub_pk (SubH.cons 1 rfl (SubH.nil _))) ⟨p15, c15, acc⟩ (by subst hU3; exact lv_row hcn (by omega)) ⟨by show acc.length ≤ 6; omega, hacc3⟩ hacc1
        clear hU3
        refine ops_nil ?_
        refine InBlock_normal ?_
        refine Then_normal ?_
        refine wp_region' ?_
        refine ops_ro' rfl (ro_move rfl) rfl ?_
        refine ops_ro' rfl (ro_add rfl rfl (wrap_inc (by omega))) rfl ?_
        refine ops_ro' rfl (ro_assign rfl) rfl ?_
        refine ops_nil ?_
        refine Then_normal ?_
        refine back (m - 1) (by omega) (kept ⟨i + 1, (ns.set i ⟨p15, c15, acc⟩), U3, ⟨by omega, hf3⟩, rfl, rfl⟩ ?_ ?_ ?_)
        · exact (by repeat (first | exact Has.nil _ | refine Has.cons rfl ?_))
        · exact (by repeat (first | exact Has.nil _ | refine Has.cons rfl ?_))
        · exact SubH.refl _
    · replace hc67 := of_decide_eq_false hc67
      refine wp_exit' ?_
      refine Then_exit ?_
      refine Then_exit ?_
      refine InBlock_here ?_
      refine Then_normal ?_
      refine wp_seq' ?_
      obtain rfl : i = 10 := by omega
      have hMU3 := ml_sub hf.sub hMW
      have hsU := hf.sub.trans hsW
      have hoU := hoy.sub hf.sub
      obtain ⟨x2, hx1, hx2, hx3, hx4, -⟩ := x_new hz2 hz3 hz4 hf
      rw [hx1]
      refine wp_region' ?_
      refine ops_ro' rfl (ro_loadA ag46 rfl (RdN.of_pick 0 rfl rdn_all) (lcs_len hx2.len)) rfl ?_
      refine ops_eff' rfl (eff_call Tryd.call27 rfl rfl (by repeat (first | exact Split.nil _ | apply Split.cons 0 rfl | apply Split.cons 1 rfl | apply Split.cons 2 rfl | apply Split.cons 3 rfl | apply Split.cons 4 rfl | apply Split.cons 5 rfl | apply Split.cons 6 rfl | apply Split.cons 7 rfl | apply Split.cons 8 rfl | apply Split.cons 9 rfl | apply Split.cons 10 rfl | apply Split.cons 11 rfl)) (enc_spec U x2 hx2 hx3)) rfl ?_
      rintro _ H' ⟨_, ⟨_, ⟨pe, ce, bs, e2, rfl, he, rfl⟩, rfl⟩, hH⟩
      simp only [List.cons_append, List.nil_append, List.eraseIdx_cons_zero, List.eraseIdx_cons_succ, List.set_cons_zero, List.set_cons_succ] at hH
      subst hH
      obtain rfl := enc_ok hx4 he
      obtain ⟨hdec, hb1, hb2⟩ := enc_dec hx2 hx3 he rfl
      refine ops_know (fun w F s => row_caps 0 rfl s) ?_
      intro hce
      refine ops_ro' rfl (ro_move rfl) rfl ?_
      refine ops_ro' rfl (ro_extract rfl rfl) rfl ?_
      refine ops_ro' rfl (ro_extract rfl rfl) rfl ?_
      refine ops_ro' rfl (ro_assign rfl) rfl ?_
      refine ops_ro' rfl (ro_assign rfl) rfl ?_
      refine ops_nil ?_
      refine Then_normal ?_
      refine wp_cutK 1021 (fun Δ LL => ∃ (b19 : Nat) (Ud : HProp) (y2 : Li), (y2.Ok Ud ∧ y2.ls = x2.ls ∧ y2.ck = x2.ck ∧ y2.f = x2.f) ∧ Δ = [(19, .pointer (some ⟨b19, 0, none⟩)), (20, .int .i64 0)] ∧ LL = [own b19 (.cells (y2.cs).toArray 46 (0, 0)), own b6 (.cells (x2.cs).toArray 46 (0, 0)), own b7 (.cells (oy.cs).toArray 46 (0, 0)), Ud, U]) (Has.cons (k := 6) rfl (Has.cons (k := 7) rfl (Has.cons (k := 18) rfl (Has.nil _)))) ?_ ?_
      · refine wp_region' ?_
        refine ops_ro' rfl (ro_move rfl) rfl ?_
        refine ops_eff' rfl (eff_callM (Pre := []) Tryd.call28 rfl rfl (Split.nil _) (dec_spec _ (by first | exact Ml.pick 0 rfl hMU3 | exact Ml.pick 1 rfl hMU3 | exact Ml.pick 2 rfl hMU3 | exact Ml.pick 3 rfl hMU3 | exact Ml.pick 4 rfl hMU3 | exact Ml.pick 5 rfl hMU3) pe ce bs (by first | exact (Vw.pick 0 rfl hvW) | exact (Vw.pick 1 rfl hvW) | exact (Vw.pick 2 rfl hvW) | exact (Vw.pick 3 rfl hvW) | exact (Vw.pick 4 rfl hvW) | exact (Vw.pick 5 rfl hvW) | exact (Vw.pick 6 rfl hvW) | exact (Vw.pick 7 rfl hvW) | exact (Vw.pick 0 rfl hy.ck) | exact (Vw.pick 1 rfl hy.ck) | exact (Vw.pick 2 rfl hy.ck) | exact (Vw.pick 3 rfl hy.ck) | exact (Vw.pick 4 rfl hy.ck) | exact (Vw.pick 5 rfl hy.ck) | exact (Vw.pick 6 rfl hy.ck) | exact (Vw.pick 7 rfl hy.ck) | exact (Vw.pick 0 rfl hsv1) | exact (Vw.pick 1 rfl hsv1) | exact (Vw.pick 2 rfl hsv1) | exact (Vw.pick 3 rfl hsv1) | exact (Vw.pick 4 rfl hsv1) | exact (Vw.pick 5 rfl hsv1) | exact (Vw.pick 6 rfl hsv1) | exact (Vw.pick 7 rfl hsv1) | exact (Vw.pick 0 rfl htv1) | exact (Vw.pick 1 rfl htv1) | exact (Vw.pick 2 rfl htv1) | exact (Vw.pick 3 rfl htv1) | exact (Vw.pick 4 rfl htv1) | exact (Vw.pick 5 rfl htv1) | exact (Vw.pick 6 rfl htv1) | exact (Vw.pick 7 rfl htv1) | exact Vw.pick 0 rfl Vw.row | exact Vw.pick 1 rfl Vw.row | exact Vw.pick 2 rfl Vw.row | exact Vw.pick 3 rfl Vw.row | exact Vw.pick 4 rfl Vw.row | exact Vw.pick 5 rfl Vw.row | exact Vw.pick 6 rfl Vw.row | exact Vw.pick 7 rfl Vw.row | exact Vw.nil _ | exact Vw.empty _ _) (by omega))) rfl ?_
        rintro _ H' ⟨_, ⟨Ud, vs, e3, rfl, hd3, rfl⟩, hH⟩
        simp only [List.cons_append, List.nil_append, List.eraseIdx_cons_zero, List.eraseIdx_cons_succ, List.set_cons_zero, List.set_cons_succ] at hH
        subst hH
        obtain ⟨rfl, y2, rfl, hy2, hy3, hy4, hy5⟩ := decP_some hd3 hdec
        refine ops_ro' rfl (ro_move rfl) rfl ?_
        refine ops_ro' rfl (ro_extract rfl rfl) rfl ?_
        refine ops_ro' rfl (ro_extract rfl rfl) rfl ?_
        refine ops_eff' rfl (eff_alloc z46) rfl ?_
        rintro _ _ ⟨b19, rfl, rfl⟩
        refine ops_eff0 rfl (eff_storeA 0 ag46 rfl rfl hd3.1 hd3.2.1 rfl (vs_le hd3.1) (warm_zero _)) rfl ?_
        rintro _ _ rfl
        simp only [List.set_cons_zero, List.set_cons_succ]
        rw [over_all (by rw [hd3.1]; rfl)]
        refine ops_ro' rfl (ro_assign rfl) rfl ?_
        refine ops_nil ?_
        refine Then_normal ?_
        refine over_cut (kept ⟨b19, Ud, y2, ⟨hy2, hy3, hy4, hy5⟩, rfl, rfl⟩ ?_ ?_ ?_)
        · exact (by repeat (first | exact Has.nil _ | refine Has.cons rfl ?_))
        · exact (by repeat (first | exact Has.nil _ | refine Has.cons rfl ?_))
        · exact (SubH.cons 0 rfl (SubH.cons 3 rfl (SubH.cons 3 rfl (SubH.cons 0 rfl (SubH.cons 1 rfl (SubH.nil _))))))
      · rintro Δ LL ⟨b19, Ud, y2, ⟨hy2, hy3, hy4, hy5⟩, rfl, rfl⟩
        simp only [List.cons_append, List.nil_append]
        refine wp_seq' ?_
        refine wp_seq' ?_
        refine wp_draw 13 (by kernel_rfl) (Split.cons 0 rfl (Split.cons 0 rfl (Split.nil _))) ?_
        refine any_ro' (i := 0) (by kernel_rfl) rfl rfl (ro_move rfl) rfl (fun _ _ _ h => h) ?_
        refine any_ro' (i := 1) (by kernel_rfl) rfl rfl (ro_neq rfl rfl (decide_eq_false (by omega))) rfl (fun _ _ _ h => h) ?_
        refine any_ro' (i := 2) (by kernel_rfl) rfl rfl (ro_move (v := .bool false) rfl) rfl (fun _ _ _ h => h) ?_
        refine any_ro' (i := 3) (by kernel_rfl) rfl rfl (ro_move rfl) rfl (fun _ _ _ h => h) ?_
        refine any_ro' (i := 4) (by kernel_rfl) rfl rfl (ro_neq rfl rfl (decide_eq_false (by omega))) rfl (fun _ _ _ h => h) ?_
        refine any_ro' (i := 5) (by kernel_rfl) rfl rfl (ro_pick rfl rfl) rfl (fun _ _ _ h => h) ?_
        refine any_ro' (i := 6) (by kernel_rfl) rfl rfl (ro_move (v := .bool false) rfl) rfl (fun _ _ _ h => h) ?_
        refine any_ro' (i := 7) (by kernel_rfl) rfl rfl (ro_loadA ag46 rfl (RdN.of_pick 0 rfl rdn_all) (lcs_len hy2.len)) rfl (fun _ _ _ h => h) ?_
        refine any_ro' (i := 8) (by kernel_rfl) rfl rfl (ro_loadA ag46 rfl (RdN.of_pick 1 rfl rdn_all) (lcs_len hx2.len)) rfl (fun _ _ _ h => h) ?_
        refine any_eff' (i := 9) (by kernel_rfl) rfl rfl (eff_call Tryd.call30 rfl rfl (by repeat (first | exact Split.nil _ | apply Split.cons 0 rfl | apply Split.cons 1 rfl | apply Split.cons 2 rfl | apply Split.cons 3 rfl | apply Split.cons 4 rfl | apply Split.cons 5 rfl | apply Split.cons 6 rfl | apply Split.cons 7 rfl | apply Split.cons 8 rfl | apply Split.cons 9 rfl | apply Split.cons 10 rfl | apply Split.cons 11 rfl)) (in9_spec x2 hx2.len)) rfl ?_
        rintro _ H' ⟨_, ⟨rfl, rfl⟩, hH⟩
        simp only [List.cons_append, List.nil_append, List.eraseIdx_cons_zero, List.eraseIdx_cons_succ, List.set_cons_zero, List.set_cons_succ] at hH
        subst hH
        refine any_eff' (i := 10) (by kernel_rfl) rfl rfl (eff_callM (Pre := []) Tryd.call29 rfl rfl (Split.nil _) (same9K _ y2 x2 (by first | exact Li.Ok.pick 0 rfl hy2 | exact Li.Ok.pick 1 rfl hy2 | exact Li.Ok.pick 2 rfl hy2 | exact Li.Ok.pick 3 rfl hy2 | exact Li.Ok.pick 4 rfl hy2 | exact Li.Ok.pick 5 rfl hy2) (by first | exact Li.Ok.pick 0 rfl hx2 | exact Li.Ok.pick 1 rfl hx2 | exact Li.Ok.pick 2 rfl hx2 | exact Li.Ok.pick 3 rfl hx2 | exact Li.Ok.pick 4 rfl hx2 | exact Li.Ok.pick 5 rfl hx2) (sm_ls hy3 hx3) hy3 hy4 hy5)) rfl ?_
        rintro _ H' ⟨_, ⟨rfl, rfl⟩, hH⟩
        simp only [List.cons_append, List.nil_append, List.eraseIdx_cons_zero, List.eraseIdx_cons_succ, List.set_cons_zero, List.set_cons_succ] at hH
        subst hH
        refine any_ro' (i := 11) (by kernel_rfl) rfl rfl (ro_not rfl rfl) rfl (fun _ _ _ h => h) ?_
        refine any_ro' (i := 12) (by kernel_rfl) rfl rfl (ro_pick rfl rfl) rfl (fun _ _ _ h => h) ?_
        refine any_done (by kernel_rfl) ?_
        refine Then_normal ?_
        refine wp_condF rfl ?_
        refine wp_skip' ?_
        refine Then_normal ?_
        refine wp_seq' ?_
        refine wp_seq' ?_
        refine wp_region' ?_
        refine ops_ro' rfl (ro_assign rfl) rfl ?_
        refine ops_nil ?_
        refine Then_normal ?_
        refine wp_block' ?_
        refine wp_loopK 24 (fun m Δ LL => ∃ (i : Nat), (i + m = 8) ∧ Δ = [(21, .int .i64 (i : Nat))] ∧ LL = [own b6 (.cells (x2.cs).toArray 46 (0, 0)), own b7 (.cells (oy.cs).toArray 46 (0, 0)), U]) (m := 8) (Has.cons (k := 6) rfl (Has.cons (k := 7) rfl (Has.nil _))) (kept ⟨0, rfl, rfl, rfl⟩ (by repeat (first | exact Has.nil _ | refine Has.cons rfl ?_)) (by repeat (first | exact Has.nil _ | refine Has.cons rfl ?_)) (by repeat (first | exact SubH.nil _ | refine SubH.cons 0 rfl ?_ | refine SubH.cons 1 rfl ?_ | refine SubH.cons 2 rfl ?_ | refine SubH.cons 3 rfl ?_ | refine SubH.cons 4 rfl ?_ | refine SubH.cons 5 rfl ?_ | refine SubH.cons 6 rfl ?_ | refine SubH.cons 7 rfl ?_ | refine SubH.cons 8 rfl ?_ | refine SubH.cons 9 rfl ?_ | refine SubH.cons 10 rfl ?_ | refine SubH.cons 11 rfl ?_ | refine SubH.cons 12 rfl ?_ | refine SubH.cons 13 rfl ?_ | refine SubH.rown ?_))) ?_
        rintro m4 Δ LL ⟨i, hm4, rfl, rfl⟩
        simp only [List.cons_append, List.nil_append]
        refine wp_seq' ?_
        refine wp_seq' ?_
        refine wp_region' ?_
        refine ops_ro' rfl (ro_move rfl) rfl ?_
        refine ops_ro' rfl (ro_lss rfl rfl rfl) rfl ?_
        refine ops_nil ?_
        refine Then_normal ?_
        refine wp_cond' rfl (fun hc125 => ?_) (fun hc125 => ?_)
        · replace hc125 := of_decide_eq_true hc125
          have hi2 : i < x2.ns.length := by rw [hx2.len]; omega
          have hi3 : i < oy.ns.length := by rw [hoU.len]; omega
          obtain ⟨s1, hs1⟩ : ∃ s1, x2.ns[i]? = some s1 := ⟨_, List.getElem?_eq_getElem hi2⟩
          obtain ⟨t1, ht1⟩ : ∃ t1, oy.ns[i]? = some t1 := ⟨_, List.getElem?_eq_getElem hi3⟩
          have hsv := hx2.ns s1 (List.mem_of_getElem? hs1)
          have hsm := hx3.ns s1 (List.mem_of_getElem? hs1)
          have htv := hoU.ns t1 (List.mem_of_getElem? ht1)
          have htm := hoys.ns t1 (List.mem_of_getElem? ht1)
          obtain ⟨sp, sc, sl⟩ := s1
          obtain ⟨tp, tc, tl⟩ := t1
          have hsv1 : Vw U (.slice sp sl.length sc) sl.length (txs sl) := hsv.1
          have htv1 : Vw U (.slice tp tl.length tc) tl.length (txs tl) := htv.1
          have hsm1 : sl.length ≤ 6 := hsm.1
          have htm1 : tl.length ≤ 6 := htm.1
          refine wp_skip' ?_
          refine Then_normal ?_
          refine wp_seq' ?_
          refine wp_block' ?_
          refine wp_seq' ?_
          refine wp_draw 8 (by kernel_rfl) (Split.all _) ?_
          refine any_ro' (i := 0) (by kernel_rfl) rfl rfl (ro_move rfl) rfl (fun _ _ _ h => h) ?_
          refine any_ro' (i := 1) (by kernel_rfl) rfl rfl (ro_fieldAddr fa46_1 rfl) rfl (fun _ _ _ h => h) ?_
          refine any_ro' (i := 2) (by kernel_rfl) rfl rfl (ro_indexArr Tryd.underlying44 (fun w => Tryd.sizeOf24 w) rfl rfl rfl (by omega)) rfl (fun _ _ _ h => h) ?_
          refine any_ro' (i := 3) (by kernel_rfl) rfl rfl (ro_load sc24 rfl (Rd.pick 0 rfl (Rd.own (lcs_at2 hs1)))) rfl (fun _ _ _ h => h) ?_
          refine any_ro' (i := 4) (by kernel_rfl) rfl rfl (ro_move rfl) rfl (fun _ _ _ h => h) ?_
          refine any_ro' (i := 5) (by kernel_rfl) rfl rfl (ro_fieldAddr fa46_1 rfl) rfl (fun _ _ _ h => h) ?_
          refine any_ro' (i := 6) (by kernel_rfl) rfl rfl (ro_indexArr Tryd.underlying44 (fun w => Tryd.sizeOf24 w) rfl rfl rfl (by omega)) rfl (fun _ _ _ h => h) ?_
          refine any_ro' (i := 7) (by kernel_rfl) rfl rfl (ro_load sc24 rfl (Rd.pick 1 rfl (Rd.own (lcs_at2 ht1)))) rfl (fun _ _ _ h => h) ?_
          refine any_unlock (m' := 14) (L' := []) (by kernel_rfl) unlock ?_
          simp only [List.cons_append, List.nil_append, List.append_nil]
          refine any_eff' (i := 8) (by kernel_rfl) rfl rfl (eff_callM (Pre := []) Tryd.call31 rfl rfl (Split.nil _) (ngChoose_spec _ sp sc sl (by first | exact (Vw.pick 0 rfl hvW) | exact (Vw.pick 1 rfl hvW) | exact (Vw.pick 2 rfl hvW) | exact (Vw.pick 3 rfl hvW) | exact (Vw.pick 4 rfl hvW) | exact (Vw.pick 5 rfl hvW) | exact (Vw.pick 6 rfl hvW) | exact (Vw.pick 7 rfl hvW) | exact (Vw.pick 0 rfl hy.ck) | exact (Vw.pick 1 rfl hy.ck) | exact (Vw.pick 2 rfl hy.ck) | exact (Vw.pick 3 rfl hy.ck) | exact (Vw.pick 4 rfl hy.ck) | exact (Vw.pick 5 rfl hy.ck) | exact (Vw.pick 6 rfl hy.ck) | exact (Vw.pick 7 rfl hy.ck) | exact (Vw.pick 0 rfl hsv1) | exact (Vw.pick 1 rfl hsv1) | exact (Vw.pick 2 rfl hsv1) | exact (Vw.pick 3 rfl hsv1) | exact (Vw.pick 4 rfl hsv1) | exact (Vw.pick 5 rfl hsv1) | exact (Vw.pick 6 rfl hsv1) | exact (Vw.pick 7 rfl hsv1) | exact (Vw.pick 0 rfl htv1) | exact (Vw.pick 1 rfl htv1) | exact (Vw.pick 2 rfl htv1) | exact (Vw.pick 3 rfl htv1) | exact (Vw.pick 4 rfl htv1) | exact (Vw.pick 5 rfl htv1) | exact (Vw.pick 6 rfl htv1) | exact (Vw.pick 7 rfl htv1) | exact Vw.pick 0 rfl Vw.row | exact Vw.pick 1 rfl Vw.row | exact Vw.pick 2 rfl Vw.row | exact Vw.pick 3 rfl Vw.row | exact Vw.pick 4 rfl Vw.row | exact Vw.pick 5 rfl Vw.row | exact Vw.pick 6 rfl Vw.row | exact Vw.pick 7 rfl Vw.row | exact Vw.nil _ | exact Vw.empty _ _) (by omega) tp tc tl (by first | exact (Vw.pick 0 rfl hvW) | exact (Vw.pick 1 rfl hvW) | exact (Vw.pick 2 rfl hvW) | exact (Vw.pick 3 rfl hvW) | exact (Vw.pick 4 rfl hvW) | exact (Vw.pick 5 rfl hvW) | exact (Vw.pick 6 rfl hvW) | exact (Vw.pick 7 rfl hvW) | exact (Vw.pick 0 rfl hy.ck) | exact (Vw.pick 1 rfl hy.ck) | exact (Vw.pick 2 rfl hy.ck) | exact (Vw.pick 3 rfl hy.ck) | exact (Vw.pick 4 rfl hy.ck) | exact (Vw.pick 5 rfl hy.ck) | exact (Vw.pick 6 rfl hy.ck) | exact (Vw.pick 7 rfl hy.ck) | exact (Vw.pick 0 rfl hsv1) | exact (Vw.pick 1 rfl hsv1) | exact (Vw.pick 2 rfl hsv1) | exact (Vw.pick 3 rfl hsv1) | exact (Vw.pick 4 rfl hsv1) | exact (Vw.pick 5 rfl hsv1) | exact (Vw.pick 6 rfl hsv1) | exact (Vw.pick 7 rfl hsv1) | exact (Vw.pick 0 rfl htv1) | exact (Vw.pick 1 rfl htv1) | exact (Vw.pick 2 rfl htv1) | exact (Vw.pick 3 rfl htv1) | exact (Vw.pick 4 rfl htv1) | exact (Vw.pick 5 rfl htv1) | exact (Vw.pick 6 rfl htv1) | exact (Vw.pick 7 rfl htv1) | exact Vw.pick 0 rfl Vw.row | exact Vw.pick 1 rfl Vw.row | exact Vw.pick 2 rfl Vw.row | exact Vw.pick 3 rfl Vw.row | exact Vw.pick 4 rfl Vw.row | exact Vw.pick 5 rfl Vw.row | exact Vw.pick 6 rfl Vw.row | exact Vw.pick 7 rfl Vw.row | exact Vw.nil _ | exact Vw.empty _ _) (by omega))) rfl ?_
          rintro _ H' ⟨_, ⟨rfl, rfl⟩, hH⟩
          simp only [List.cons_append, List.nil_append, List.eraseIdx_cons_zero, List.eraseIdx_cons_succ, List.set_cons_zero, List.set_cons_succ] at hH
          subst hH
          refine any_ro' (i := 9) (by kernel_rfl) rfl rfl (ro_move rfl) rfl (fun _ _ _ h => h) ?_
          refine any_ro' (i := 10) (by kernel_rfl) rfl rfl (ro_extract rfl rfl) rfl (fun _ _ _ h => h) ?_
          refine any_ro' (i := 11) (by kernel_rfl) rfl rfl (ro_extract rfl rfl) rfl (fun _ _ _ h => h) ?_
          refine any_ro' (i := 12) (by kernel_rfl) rfl rfl (ro_assign rfl) rfl (fun _ _ _ h => h) ?_
          refine any_ro' (i := 13) (by kernel_rfl) rfl rfl (ro_assign rfl) rfl (fun _ _ _ h => h) ?_
          refine any_doneH (by kernel_rfl) ?_
          refine Then_normal ?_
          refine wp_seq' ?_
          refine wp_region' ?_
          refine ops_ro' rfl (ro_assign rfl) rfl ?_
          refine ops_nil ?_
          refine Then_normal ?_
          refine wp_seq' ?_
          refine wp_seq' ?_
          refine wp_region' ?_
          refine ops_ro' rfl (ro_move rfl) rfl ?_
          refine ops_ro' rfl (ro_fieldAddr fa46_1 rfl) rfl ?_
          refine ops_ro' rfl (ro_indexArr Tryd.underlying44 (fun w => Tryd.sizeOf24 w) rfl rfl rfl (by omega)) rfl ?_
          refine ops_ro' rfl (ro_load sc24 rfl (Rd.pick 0 rfl (Rd.own (lcs_at2 hs1)))) rfl ?_
          refine ops_ro' rfl (ro_sliceLen Tryd.underlying24 rfl) rfl ?_
          refine ops_ro' rfl (ro_sub rfl rfl (show IntKind.i64.wrap ((sl.length : Int) - 1) = (sl.length : Int) - 1 by rw [wrap_i64_in (by omega) (by omega)])) rfl ?_
          refine ops_ro' rfl (ro_assign rfl) rfl ?_
          refine ops_nil ?_
          refine Then_normal ?_
          refine wp_block' ?_
          refine wp_loopK 29 (fun m Δ LL => ∃ (k : Nat) (f : Int), (k = m ∧ k ≤ sl.length ∧ Fst sl tl k f) ∧ Δ = [(24, .int .i64 f), (25, .int .i64 ((k : Int) - 1))] ∧ LL = [own b6 (.cells (x2.cs).toArray 46 (0, 0)), own b7 (.cells (oy.cs).toArray 46 (0, 0)), U]) (m := sl.length) (Has.cons (k := 6) rfl (Has.cons (k := 7) rfl (Has.cons (k := 21) rfl (Has.cons (k := 22) rfl (Has.cons (k := 23) rfl (Has.nil _)))))) (kept ⟨sl.length, -1, ⟨rfl, Nat.le_refl _, Fst.top sl tl⟩, rfl, rfl⟩ (by repeat (first | exact Has.nil _ | refine Has.cons rfl ?_)) (by repeat (first | exact Has.nil _ | refine Has.cons rfl ?_)) (by repeat (first | exact SubH.nil _ | refine SubH.cons 0 rfl ?_ | refine SubH.cons 1 rfl ?_ | refine SubH.cons 2 rfl ?_ | refine SubH.cons 3 rfl ?_ | refine SubH.cons 4 rfl ?_ | refine SubH.cons 5 rfl ?_ | refine SubH.cons 6 rfl ?_ | refine SubH.cons 7 rfl ?_ | refine SubH.cons 8 rfl ?_ | refine SubH.cons 9 rfl ?_ | refine SubH.cons 10 rfl ?_ | refine SubH.cons 11 rfl ?_ | refine SubH.cons 12 rfl ?_ | refine SubH.cons 13 rfl ?_ | refine SubH.rown ?_))) ?_
          rintro m5 Δ LL ⟨k, f, ⟨hkm, hk6, hff⟩, rfl, rfl⟩
          simp only [List.cons_append, List.nil_append]
          refine wp_seq' ?_
          refine wp_seq' ?_
          refine wp_region' ?_
          refine ops_ro' rfl (ro_move rfl) rfl ?_
          refine ops_ro' rfl (ro_geq rfl rfl rfl) rfl ?_
          refine ops_nil ?_
          refine Then_normal ?_
          refine wp_cond' rfl (fun hc147 => ?_) (fun hc147 => ?_)
          · replace hc147 := of_decide_eq_true hc147
            obtain ⟨k, rfl⟩ : ∃ j, k = j + 1 := ⟨k - 1, by omega⟩
            have hk : k < sl.length := by omega
            refine wp_skip' ?_
            refine Then_normal ?_
            refine wp_seq' ?_
            refine wp_block' ?_
            refine wp_seq' ?_
            refine wp_region' ?_
            refine ops_ro' rfl (ro_assign rfl) rfl ?_
            refine ops_nil ?_
            refine Then_normal ?_
            refine wp_block' ?_
            refine wp_loopK 32 (fun m Δ LL => ∃ (n : Nat) (g : Int), (n + m = tl.length ∧ ((g = f ∧ sl[k] ∉ tl.take n) ∨ (g = ((k : Nat) : Int) ∧ sl[k] ∈ tl))) ∧ Δ = [(24, .int .i64 g), (26, .int .i64 (n : Nat))] ∧ LL = [own b6 (.cells (x2.cs).toArray 46 (0, 0)), own b7 (.cells (oy.cs).toArray 46 (0, 0)), U]) (m := tl.length) (Has.cons (k := 6) rfl (Has.cons (k := 7) rfl (Has.cons (k := 21) rfl (Has.cons (k := 22) rfl (Has.cons (k := 23) rfl (Has.cons (k := 25) rfl (Has.nil _))))))) (kept ⟨0, f, ⟨by omega, .inl ⟨rfl, by simp⟩⟩, rfl, rfl⟩ (by repeat (first | exact Has.nil _ | refine Has.cons rfl ?_)) (by repeat (first | exact Has.nil _ | refine Has.cons rfl ?_)) (by repeat (first | exact SubH.nil _ | refine SubH.cons 0 rfl ?_ | refine SubH.cons 1 rfl ?_ | refine SubH.cons 2 rfl ?_ | refine SubH.cons 3 rfl ?_ | refine SubH.cons 4 rfl ?_ | refine SubH.cons 5 rfl ?_ | refine SubH.cons 6 rfl ?_ | refine SubH.cons 7 rfl ?_ | refine SubH.cons 8 rfl ?_ | refine SubH.cons 9 rfl ?_ | refine SubH.cons 10 rfl ?_ | refine SubH.cons 11 rfl ?_ | refine SubH.cons 12 rfl ?_ | refine SubH.cons 13 rfl ?_ | refine SubH.rown ?_))) ?_
            rintro m6 Δ LL ⟨n, g, ⟨hnm, hg⟩, rfl, rfl⟩
            simp only [List.cons_append, List.nil_append]
            refine wp_seq' ?_
            refine wp_seq' ?_
            refine wp_region' ?_
            refine ops_ro' rfl (ro_move rfl) rfl ?_
            refine ops_ro' rfl (ro_move rfl) rfl ?_
            refine ops_ro' rfl (ro_fieldAddr fa46_1 rfl) rfl ?_
            refine ops_ro' rfl (ro_indexArr Tryd.underlying44 (fun w => Tryd.sizeOf24 w) rfl rfl rfl (by omega)) rfl ?_
            refine ops_ro' rfl (ro_load sc24 rfl (Rd.pick 1 rfl (Rd.own (lcs_at2 ht1)))) rfl ?_
            refine ops_ro' rfl (ro_sliceLen Tryd.underlying24 rfl) rfl ?_
            refine ops_ro' rfl (ro_lss rfl rfl rfl) rfl ?_
            refine ops_nil ?_
            refine Then_normal ?_
            refine wp_cond' rfl (fun hc156 => ?_) (fun hc156 => ?_)
            · replace hc156 := of_decide_eq_true hc156
              dsimp only at hc156
              have hn : n < tl.length := by omega
              refine wp_know (fun w F s => vw_ptr (Vw.pick (H := [_, _, U]) 2 rfl htv1) s (by omega)) ?_
              rintro ⟨b0, o0, rfl⟩
              refine wp_know (fun w F s => vw_ptr (Vw.pick (H := [_, _, U]) 2 rfl hsv1) s (by omega)) ?_
              rintro ⟨b1, o1, rfl⟩
              refine wp_skip' ?_
              refine Then_normal ?_
              refine wp_seq' ?_
              refine wp_block' ?_
              refine wp_seq' ?_
              refine wp_draw 15 (by kernel_rfl) (Split.all _) ?_
              refine any_ro' (i := 0) (by kernel_rfl) rfl rfl (ro_move rfl) rfl (fun _ _ _ h => h) ?_
              refine any_ro' (i := 1) (by kernel_rfl) rfl rfl (ro_fieldAddr fa46_1 rfl) rfl (fun _ _ _ h => h) ?_
              refine any_ro' (i := 2) (by kernel_rfl) rfl rfl (ro_indexArr Tryd.underlying44 (fun w => Tryd.sizeOf24 w) rfl rfl rfl (by omega)) rfl (fun _ _ _ h => h) ?_
              refine any_ro' (i := 3) (by kernel_rfl) rfl rfl (ro_load sc24 rfl (Rd.pick 1 rfl (Rd.own (lcs_at2 ht1)))) rfl (fun _ _ _ h => h) ?_
              refine any_ro' (i := 4) (by kernel_rfl) rfl rfl (ro_move rfl) rfl (fun _ _ _ h => h) ?_
              refine any_ro' (i := 5) (by kernel_rfl) rfl rfl (ro_indexSlice sl24 rfl rfl rfl (by omega)) rfl (fun _ _ _ h => h) ?_
              refine any_ro' (i := 6) (by kernel_rfl) rfl rfl (ro_load sc9 rfl (Rd.pick 2 rfl (Rd.elem (j := 0) (vw_rdn htv1) Tx.len (List.getElem?_eq_getElem hn) rfl))) rfl (fun _ _ _ h => h) ?_
              refine any_ro' (i := 7) (by kernel_rfl) rfl rfl (ro_move rfl) rfl (fun _ _ _ h => h) ?_
              refine any_ro' (i := 8) (by kernel_rfl) rfl rfl (ro_fieldAddr fa46_1 rfl) rfl (fun _ _ _ h => h) ?_
              refine any_ro' (i := 9) (by kernel_rfl) rfl rfl (ro_indexArr Tryd.underlying44 (fun w => Tryd.sizeOf24 w) rfl rfl rfl (by omega)) rfl (fun _ _ _ h => h) ?_
              refine any_ro' (i := 10) (by kernel_rfl) rfl rfl (ro_load sc24 rfl (Rd.pick 0 rfl (Rd.own (lcs_at2 hs1)))) rfl (fun _ _ _ h => h) ?_
              refine any_ro' (i := 11) (by kernel_rfl) rfl rfl (ro_move rfl) rfl (fun _ _ _ h => h) ?_
              refine any_ro' (i := 12) (by kernel_rfl) rfl rfl (ro_indexSlice sl24 rfl rfl (show ((k + 1 : Nat) : Int) - 1 = ((k : Nat) : Int) by omega) (by omega)) rfl (fun _ _ _ h => h) ?_
              refine any_ro' (i := 13) (by kernel_rfl) rfl rfl (ro_load sc9 rfl (Rd.pick 2 rfl (Rd.elem (j := 0) (vw_rdn hsv1) Tx.len (List.getElem?_eq_getElem hk) rfl))) rfl (fun _ _ _ h => h) ?_
              refine any_ro' (i := 14) (by kernel_rfl) rfl rfl (ro_eqlS rfl rfl rfl) rfl (fun _ _ _ h => h) ?_
              refine any_doneL (by kernel_rfl) ?_
              refine Then_normal ?_
              refine wp_cond' rfl (fun hc173 => ?_) (fun hc173 => ?_)
              · replace hc173 := of_decide_eq_true hc173
                refine wp_region' ?_
                refine ops_ro' rfl (ro_move rfl) rfl ?_
                refine ops_ro' rfl (ro_assign rfl) rfl ?_
                refine ops_nil ?_
                refine InBlock_normal ?_
                refine Then_normal ?_
                refine wp_region' ?_
                refine ops_ro' rfl (ro_move rfl) rfl ?_
                refine ops_ro' rfl (ro_add rfl rfl (wrap_inc (by omega))) rfl ?_
                refine ops_ro' rfl (ro_assign rfl) rfl ?_
                refine ops_nil ?_
                refine Then_normal ?_
                refine back (m6 - 1) (by omega) (kept ⟨n + 1, (((k + 1 : Nat) : Int) - 1), ⟨by omega, .inr ⟨by omega, mem_hit hn hc173⟩⟩, rfl, rfl⟩ ?_ ?_ ?_)
                · exact (by repeat (first | exact Has.nil _ | refine Has.cons rfl ?_))
                · exact (by repeat (first | exact Has.nil _ | refine Has.cons rfl ?_))
                · exact SubH.refl _
              · replace hc173 := of_decide_eq_false hc173
                refine wp_skip' ?_
                refine InBlock_normal ?_
                refine Then_normal ?_
                refine wp_region' ?_
                refine ops_ro' rfl (ro_move rfl) rfl ?_
                refine ops_ro' rfl (ro_add rfl rfl (wrap_inc (by omega))) rfl ?_
                refine ops_ro' rfl (ro_assign rfl) rfl ?_
                refine ops_nil ?_
                refine Then_normal ?_
                refine back (m6 - 1) (by omega) (kept ⟨n + 1, g, ⟨by omega, mem_no hn hc173 hg⟩, rfl, rfl⟩ ?_ ?_ ?_)
                · exact (by repeat (first | exact Has.nil _ | refine Has.cons rfl ?_))
                · exact (by repeat (first | exact Has.nil _ | refine Has.cons rfl ?_))
                · exact SubH.refl _
            · replace hc156 := of_decide_eq_false hc156
              dsimp only at hc156
              have hfg := fst_step hk hff (by rw [List.take_of_length_le (show tl.length ≤ n by omega)] at hg; exact hg)
              refine wp_exit' ?_
              refine Then_exit ?_
              refine Then_exit ?_
              refine InBlock_here ?_
              refine InBlock_normal ?_
              refine Then_normal ?_
              refine wp_region' ?_
              refine ops_ro' rfl (ro_move rfl) rfl ?_
              refine ops_ro' rfl (ro_sub rfl rfl (show IntKind.i64.wrap (((k + 1 : Nat) : Int) - 1 - 1) = ((k : Nat) : Int) - 1 by rw [wrap_i64_in (by omega) (by omega)]; omega)) rfl ?_
              refine ops_ro' rfl (ro_assign rfl) rfl ?_
              refine ops_nil ?_
              refine Then_normal ?_
              refine back (m5 - 1) (by omega) (kept ⟨k, g, ⟨by omega, by omega, hfg⟩, rfl, rfl⟩ ?_ ?_ ?_)
              · exact (by repeat (first | exact Has.nil _ | refine Has.cons rfl ?_))
              · exact (by repeat (first | exact Has.nil _ | refine Has.cons rfl ?_))
              · exact SubH.refl _
          · replace hc147 := of_decide_eq_false hc147
            obtain rfl : k = 0 := by omega
            obtain ⟨hE, hcho⟩ := fst_yes hff
            refine wp_exit' ?_
            refine Then_exit ?_
            refine Then_exit ?_
            refine InBlock_here ?_
            refine Then_normal ?_
            refine wp_seq' ?_
            refine wp_region' ?_
            refine ops_ro' rfl (ro_move rfl) rfl ?_
            refine ops_ro' rfl (ro_eql rfl rfl rfl) rfl ?_
            refine ops_ro' rfl (ro_move rfl) rfl ?_
            refine ops_ro' rfl (ro_geq rfl rfl rfl) rfl ?_
            refine ops_ro' rfl (ro_neq_bool Tryd.underlying4 rfl rfl (c := false) (by rw [hE]; simp)) rfl ?_
            refine ops_ro' rfl (ro_move (v := .bool false) rfl) rfl ?_
            refine ops_ro' rfl (ro_move rfl) rfl ?_
            refine ops_ro' rfl (ro_geq rfl rfl rfl) rfl ?_
            refine ops_split rfl rfl rfl (fun hg183 => ?_) (fun hg183 => ?_)
            · replace hg183 := of_decide_eq_true hg183
              obtain ⟨j, hj, hfj, hch⟩ := hcho (by omega)
              refine ops_know (fun w F s => vw_ptr (Vw.pick (H := [_, _, U]) 2 rfl hsv1) s (by omega)) ?_
              rintro ⟨b1, o1, rfl⟩
              refine ops_ro' rfl (ro_move rfl) rfl ?_
              refine ops_ro' rfl (ro_move rfl) rfl ?_
              refine ops_ro' rfl (ro_fieldAddr fa46_1 rfl) rfl ?_
              refine ops_ro' rfl (ro_indexArr Tryd.underlying44 (fun w => Tryd.sizeOf24 w) rfl rfl rfl (by omega)) rfl ?_
              refine ops_ro' rfl (ro_load sc24 rfl (Rd.pick 0 rfl (Rd.own (lcs_at2 hs1)))) rfl ?_
              refine ops_ro' rfl (ro_move rfl) rfl ?_
              refine ops_ro' rfl (ro_indexSlice sl24 rfl rfl hfj (by omega)) rfl ?_
              refine ops_ro' rfl (ro_load sc9 rfl (Rd.pick 2 rfl (Rd.elem (j := 0) (vw_rdn hsv1) Tx.len (List.getElem?_eq_getElem hj) rfl))) rfl ?_
              refine ops_ro' rfl (ro_neqS rfl rfl (decide_eq_false (fun h => h (by rw [hch])))) rfl ?_
              refine ops_ro' rfl (ro_pick rfl rfl) rfl ?_
              refine ops_ro' rfl (ro_pick rfl rfl) rfl ?_
              refine ops_nil ?_
              refine Then_normal ?_
              refine wp_condF rfl ?_
              refine wp_skip' ?_
              refine InBlock_normal ?_
              refine Then_normal ?_
              refine wp_region' ?_
              refine ops_ro' rfl (ro_move rfl) rfl ?_
              refine ops_ro' rfl (ro_add rfl rfl (wrap_inc (by omega))) rfl ?_
              refine ops_ro' rfl (ro_assign rfl) rfl ?_
              refine ops_nil ?_
              refine Then_normal ?_
              refine back (m4 - 1) (by omega) (kept ⟨i + 1, by omega, rfl, rfl⟩ ?_ ?_ ?_)
              · exact (by repeat (first | exact Has.nil _ | refine Has.cons rfl ?_))
              · exact (by repeat (first | exact Has.nil _ | refine Has.cons rfl ?_))
              · exact SubH.refl _
            · replace hg183 := of_decide_eq_false hg183
              refine ops_skip' rfl rfl ?_
              refine ops_skip' rfl rfl ?_
              refine ops_skip' rfl rfl ?_
              refine ops_skip' rfl rfl ?_
              refine ops_skip' rfl rfl ?_
              refine ops_skip' rfl rfl ?_
              refine ops_skip' rfl rfl ?_
              refine ops_skip' rfl rfl ?_
              refine ops_skip' rfl rfl ?_
              refine ops_ro' rfl (ro_pick rfl rfl) rfl ?_
              refine ops_ro' rfl (ro_pick rfl rfl) rfl ?_
              refine ops_nil ?_
              refine Then_normal ?_
              refine wp_condF rfl ?_
              refine wp_skip' ?_
              refine InBlock_normal ?_
              refine Then_normal ?_
              refine wp_region' ?_
              refine ops_ro' rfl (ro_move rfl) rfl ?_
              refine ops_ro' rfl (ro_add rfl rfl (wrap_inc (by omega))) rfl ?_
              refine ops_ro' rfl (ro_assign rfl) rfl ?_
              refine ops_nil ?_
              refine Then_normal ?_
              refine back (m4 - 1) (by omega) (kept ⟨i + 1, by omega, rfl, rfl⟩ ?_ ?_ ?_)
              · exact (by repeat (first | exact Has.nil _ | refine Has.cons rfl ?_))
              · exact (by repeat (first | exact Has.nil _ | refine Has.cons rfl ?_))
              · exact SubH.refl _
        · replace hc125 := of_decide_eq_false hc125
          refine wp_exit' ?_
          refine Then_exit ?_
          refine Then_exit ?_
          refine InBlock_here ?_
          refine Then_normal ?_
          refine wp_seq' ?_
          refine wp_region' ?_
          refine ops_eff' rfl (eff_call Tryd.call32 rfl rfl (by repeat (first | exact Split.nil _ | apply Split.cons 0 rfl | apply Split.cons 1 rfl | apply Split.cons 2 rfl | apply Split.cons 3 rfl | apply Split.cons 4 rfl | apply Split.cons 5 rfl | apply Split.cons 6 rfl | apply Split.cons 7 rfl | apply Split.cons 8 rfl | apply Split.cons 9 rfl | apply Split.cons 10 rfl | apply Split.cons 11 rfl)) (known9_spec U hMU3)) rfl ?_
          rintro _ H' ⟨_, ⟨rfl, rfl⟩, hH⟩
          simp only [List.cons_append, List.nil_append, List.eraseIdx_cons_zero, List.eraseIdx_cons_succ, List.set_cons_zero, List.set_cons_succ] at hH
          subst hH
          refine ops_ro' rfl (ro_assign rfl) rfl ?_
          refine ops_nil ?_
          refine Then_normal ?_
          refine wp_ret' ?_
          refine' doneS_ret (res1 rfl rfl) ?_ ?_
          rotate_left 1
          exact ⟨rfl, U, hsU, rfl⟩
          exact (SubH.cons 0 rfl (SubH.nil _))
theorem negoback_tri (V : HProp) (hM : Ml V) (s : List UInt8) (p1 : Option Addr) (c1 : Nat) (bh : List UInt8) (hV1 : Vw V (.slice p1 bh.length c1) bh.length (cel bh)) (hm1 : bh.length ≤ 140737488351232) (x : Li) (hx : x.Ok V) (o : Li) (ho : o.Ok V) :
    Tri Tryd.prog 8 [.string (str s), .slice p1 bh.length c1, x.v, o.v] [V] (fun v H' => v = .bool true ∧ H' = [V]) :=
  tri_weak (nback_run V hM s p1 c1 bh hV1 hm1 x hx o ho) fun v H ⟨h1, W, h2, h3⟩ => ⟨[V], ⟨h1, rfl⟩, fun w F s => h2 w F (h3 ▸ s)⟩

end Go.Proofs.YtigaolglnnjnmaaDoor
