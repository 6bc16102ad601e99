/-
  The walks of slices.Insert, slices.Delete at a directory's things.
-/
import Derived.Test.YtbbmhppkhcodfaaTrI
namespace Go.Proofs.Ytbbmhppkhcodfaa
open Go.Sx
set_option linter.unusedVariables false
set_option linter.unusedSimpArgs false
set_option maxRecDepth 100000
set_option maxHeartbeats 4000000

theorem insA (p : Option Addr) (c : Nat) (l : List Nat) (hl : l.length ≤ 100000) (y vb : Nat) : Tri Try.prog 37 [.slice p l.length c, .int .i64 (l.length : Nat), .slice (some ⟨vb, 0, none⟩) 1 1] [rowP p c l, own vb (.cells (pts [y]).toArray 76 (0, 0))] (fun v H' => ∃ p' c', v = .slice p' (insAt l l.length y).length c' ∧ H' = [rowP p' c' (insAt l l.length y)]) := by
  refine tri_of_wpS Try.func37 rfl Try.ntmps37 (by simp) ?_
  refine wp_seq' ?_
  refine wp_region' ?_
  refine ops_ro' rfl (ro_assign rfl) rfl ?_
  refine ops_nil ?_
  refine Then_normal ?_
  refine wp_seq' ?_
  refine wp_know (fun w F s => row_shp 0 rfl s) ?_
  intro hsh
  refine wp_region' ?_
  refine ops_ro' rfl (ro_move rfl) rfl ?_
  refine ops_ro' rfl (ro_move rfl) rfl ?_
  refine ops_ro' rfl (ro_sliceP sl82 rfl hsh (bnd_of rfl rfl) rfl (by omega) (by omega)) rfl ?_
  refine ops_nil ?_
  refine Then_normal ?_
  refine wp_seq' ?_
  refine wp_region' ?_
  refine ops_ro' rfl (ro_move rfl) rfl ?_
  refine ops_ro' rfl (ro_sliceLen Try.underlying82 rfl) rfl ?_
  refine ops_ro' rfl (ro_assign rfl) rfl ?_
  refine ops_nil ?_
  refine Then_normal ?_
  refine wp_seq' ?_
  refine wp_seq' ?_
  refine wp_region' ?_
  refine ops_ro' rfl (ro_move rfl) rfl ?_
  refine ops_ro' rfl (ro_eql rfl rfl (decide_eq_false (by omega))) rfl ?_
  refine ops_nil ?_
  refine Then_normal ?_
  refine wp_condF rfl ?_
  refine wp_skip' ?_
  refine Then_normal ?_
  refine wp_seq' ?_
  refine wp_region' ?_
  refine ops_ro' rfl (ro_move rfl) rfl ?_
  refine ops_ro' rfl (ro_sliceLen Try.underlying82 rfl) rfl ?_
  refine ops_ro' rfl (ro_assign rfl) rfl ?_
  refine ops_nil ?_
  refine Then_normal ?_
  refine wp_seq' ?_
  refine wp_seq' ?_
  refine wp_region' ?_
  refine ops_ro' rfl (ro_move rfl) rfl ?_
  refine ops_ro' rfl (ro_move rfl) rfl ?_
  refine ops_ro' rfl (ro_eql rfl rfl (decide_eq_true (by omega))) rfl ?_
  refine ops_nil ?_
  refine Then_normal ?_
  refine wp_condT rfl ?_
  refine wp_seq' ?_
  refine wp_region' ?_
  refine ops_ro' rfl (ro_move rfl) rfl ?_
  refine ops_ro' rfl (ro_move rfl) rfl ?_
  refine ops_eff' rfl (eff_appF (f := Pq.cs) (l2 := [y]) 0 sl82 (.inl ⟨76, Try.underlying82⟩) rfl rfl rfl (by first | exact Src.flatv Pq.len Pq.one (Vw.pick 0 rfl (Vw.rd (n := 1) rdn_all)) | exact Src.flatv Pq.len Pq.one (Vw.pick 1 rfl (Vw.rd (n := 1) rdn_all)) | exact Src.flatv Pq.len Pq.one (Vw.pick 2 rfl (Vw.rd (n := 1) rdn_all)) | exact Src.flatv Pq.len Pq.one (Vw.pick 3 rfl (Vw.rd (n := 1) rdn_all)) | exact Src.flatv Pq.len Pq.one (Vw.pick 0 rfl Vw.row) | exact Src.flatv Pq.len Pq.one (Vw.pick 1 rfl Vw.row) | exact Src.flatv Pq.len Pq.one (Vw.pick 2 rfl Vw.row) | exact Src.flatv Pq.len Pq.one (Vw.pick 3 rfl Vw.row)) (by simp only [List.length_cons, List.length_nil]; omega) (by simp only [List.length_cons, List.length_nil]; omega)) rfl ?_
  rintro _ _ ⟨p25, c25, rfl, hn25, rfl⟩
  simp only [List.set_cons_zero, List.set_cons_succ]
  refine ops_ro' rfl (ro_assign rfl) rfl ?_
  refine ops_nil ?_
  refine Then_normal ?_
  refine wp_ret' ?_
  refine Then_ret ?_
  refine' doneS_ret (res1 rfl rfl) ?_ ?_
  rotate_left 1
  exact ⟨p25, c25, by rw [insAt_end], by rw [insAt_end]⟩
  exact (SubH.cons 0 rfl (SubH.nil _))
theorem insB (b c : Nat) (l : List Nat) (hl : l.length ≤ 100000) (i : Nat) (hi : i < l.length) (y vb : Nat) (cs : List Value) (fr : Nat × Nat) (hcap : l.length ≤ c) (hcm : c ≤ maxLen) (hcs : cs.length = c * 1) (htk : cs.take (l.length * 1) = pts l) (hw : warm cs fr) :
    Tri Try.prog 37 [.slice (some ⟨b, 0, none⟩) l.length c, .int .i64 (i : Nat), .slice (some ⟨vb, 0, none⟩) 1 1] [own b (.cells (cs).toArray 76 fr), own vb (.cells (pts [y]).toArray 76 (0, 0))] (fun v H' => ∃ p' c', v = .slice p' (insAt l i y).length c' ∧ H' = [rowP p' c' (insAt l i y)]) := by
  have hl1 : cs.length = c := by omega
  have hc2 := hcm
  simp only [maxLen] at hc2
  refine tri_of_wpS Try.func37 rfl Try.ntmps37 (by simp) ?_
  refine wp_seq' ?_
  refine wp_region' ?_
  refine ops_ro' rfl (ro_assign rfl) rfl ?_
  refine ops_nil ?_
  refine Then_normal ?_
  refine wp_seq' ?_
  refine wp_region' ?_
  refine ops_ro' rfl (ro_move rfl) rfl ?_
  refine ops_ro' rfl (ro_move rfl) rfl ?_
  refine ops_ro' rfl (ro_slice sl82 rfl (bnd_of rfl rfl) rfl (by omega) (by omega)) rfl ?_
  refine ops_nil ?_
  refine Then_normal ?_
  refine wp_seq' ?_
  refine wp_region' ?_
  refine ops_ro' rfl (ro_move rfl) rfl ?_
  refine ops_ro' rfl (ro_sliceLen Try.underlying82 rfl) rfl ?_
  refine ops_ro' rfl (ro_assign rfl) rfl ?_
  refine ops_nil ?_
  refine Then_normal ?_
  refine wp_seq' ?_
  refine wp_seq' ?_
  refine wp_region' ?_
  refine ops_ro' rfl (ro_move rfl) rfl ?_
  refine ops_ro' rfl (ro_eql rfl rfl (decide_eq_false (by omega))) rfl ?_
  refine ops_nil ?_
  refine Then_normal ?_
  refine wp_condF rfl ?_
  refine wp_skip' ?_
  refine Then_normal ?_
  refine wp_seq' ?_
  refine wp_region' ?_
  refine ops_ro' rfl (ro_move rfl) rfl ?_
  refine ops_ro' rfl (ro_sliceLen Try.underlying82 rfl) rfl ?_
  refine ops_ro' rfl (ro_assign rfl) rfl ?_
  refine ops_nil ?_
  refine Then_normal ?_
  refine wp_seq' ?_
  refine wp_seq' ?_
  refine wp_region' ?_
  refine ops_ro' rfl (ro_move rfl) rfl ?_
  refine ops_ro' rfl (ro_move rfl) rfl ?_
  refine ops_ro' rfl (ro_eql rfl rfl (decide_eq_false (by omega))) rfl ?_
  refine ops_nil ?_
  refine Then_normal ?_
  refine wp_condF rfl ?_
  refine wp_skip' ?_
  refine Then_normal ?_
  refine wp_seq' ?_
  refine wp_seq' ?_
  refine wp_region' ?_
  refine ops_ro' rfl (ro_move rfl) rfl ?_
  refine ops_ro' rfl (ro_move rfl) rfl ?_
  refine ops_ro' rfl (ro_add rfl rfl (show IntKind.i64.wrap ((l.length : Int) + 1) = ((l.length + 1 : Nat) : Int) by rw [wrap_i64_in (by omega) (by omega)]; omega)) rfl ?_
  refine ops_ro' rfl (ro_move rfl) rfl ?_
  refine ops_ro' rfl (ro_sliceCap Try.underlying82 rfl) rfl ?_
  refine ops_ro' rfl (ro_gtr rfl rfl rfl) rfl ?_
  refine ops_nil ?_
  refine Then_normal ?_
  refine wp_cond' rfl (fun hc31 => ?_) (fun hc31 => ?_)
  · replace hc31 := of_decide_eq_true hc31
    refine wp_seq' ?_
    refine wp_region' ?_
    refine ops_ro' rfl (ro_move rfl) rfl ?_
    refine ops_ro' rfl (ro_move rfl) rfl ?_
    refine ops_ro' rfl (ro_slice sl82 rfl rfl (bnd_of rfl rfl) (by omega) (by omega)) rfl ?_
    rw [resl_zero]
    refine ops_ro' rfl (ro_move rfl) rfl ?_
    refine ops_ro' rfl (ro_move rfl) rfl ?_
    refine ops_ro' rfl (ro_add rfl rfl (show IntKind.i64.wrap ((l.length : Int) + 1) = ((l.length + 1 : Nat) : Int) by rw [wrap_i64_in (by omega) (by omega)]; omega)) rfl ?_
    refine ops_ro' rfl (ro_move rfl) rfl ?_
    refine ops_ro' rfl (ro_sub rfl rfl (show IntKind.i64.wrap (((l.length + 1 : Nat) : Int) - (i : Int)) = ((l.length + 1 - i : Nat) : Int) by rw [wrap_i64_in (by omega) (by omega)]; omega)) rfl ?_
    refine ops_eff' rfl (eff_appendMk (xs := pts (l.take i)) (m := l.length + 1 - i) sl82 rfl Try.underlying3 rfl rfl (by first | exact RdN.of_pick 0 rfl (rdn_pre htk i) | exact RdN.of_pick 1 rfl (rdn_pre htk i) | exact RdN.of_pick 2 rfl (rdn_pre htk i) | exact RdN.of_pick 3 rfl (rdn_pre htk i) | exact RdN.of_pick 4 rfl (rdn_pre htk i) | exact RdN.of_pick 5 rfl (rdn_pre htk i)) (by rw [pts_len, List.length_take]; omega) (by omega) (by omega) (by omega) (by simp only [maxLen]; omega)) rfl ?_
    rintro _ _ ⟨b40, cp40, rfl, hp1, hp2, rfl⟩
    rw [show i + (l.length + 1 - i) = l.length + 1 by omega] at hp1 ⊢
    have lA : (pts (l.take i) ++ List.replicate (cp40 - i) (Value.pointer none)).length = cp40 := by rw [List.length_append, pts_len, List.length_take, List.length_replicate]; omega
    have lB : (over (pts (l.take i) ++ List.replicate (cp40 - i) (Value.pointer none)) i (pts [y])).length = cp40 := by rw [over_length (by rw [lA]; show i + 1 ≤ _; omega), lA]
    refine ops_ro' rfl (ro_assign rfl) rfl ?_
    refine ops_nil ?_
    refine Then_normal ?_
    refine wp_seq' ?_
    refine wp_region' ?_
    refine ops_ro' rfl (ro_move rfl) rfl ?_
    refine ops_ro' rfl (ro_move rfl) rfl ?_
    refine ops_ro' rfl (ro_slice sl82 rfl (bnd_of rfl rfl) rfl (by omega) (by omega)) rfl ?_
    rw [resl_lt (by omega)]
    refine ops_ro' rfl (ro_move rfl) rfl ?_
    refine ops_eff' rfl (eff_copyO 0 sl82 rfl rfl rfl (warm_zero _) (by first | exact RdN.of_pick 0 rfl (rdn_all) | exact RdN.of_pick 1 rfl (rdn_all) | exact RdN.of_pick 2 rfl (rdn_all) | exact RdN.of_pick 3 rfl (rdn_all) | exact RdN.of_pick 4 rfl (rdn_all) | exact RdN.of_pick 5 rfl (rdn_all)) (by show 1 = min 1 _; omega) (pts_one _) (by rw [lA]; show i + 1 ≤ _; omega)) rfl ?_
    rintro _ _ ⟨rfl, rfl⟩
    simp only [List.set_cons_zero, List.set_cons_succ]
    refine ops_nil ?_
    refine Then_normal ?_
    refine wp_seq' ?_
    refine wp_draw 8 (by kernel_rfl) (Split.all _) ?_
    refine any_ro' (i := 0) (by kernel_rfl) rfl rfl (ro_move rfl) rfl (fun _ _ _ h => h) ?_
    refine any_ro' (i := 1) (by kernel_rfl) rfl rfl (ro_move rfl) rfl (fun _ _ _ h => h) ?_
    refine any_ro' (i := 2) (by kernel_rfl) rfl rfl (ro_move rfl) rfl (fun _ _ _ h => h) ?_
    refine any_ro' (i := 3) (by kernel_rfl) rfl rfl (ro_add rfl rfl (show IntKind.i64.wrap ((i : Int) + 1) = ((i + 1 : Nat) : Int) by rw [wrap_i64_in (by omega) (by omega)]; omega)) rfl (fun _ _ _ h => h) ?_
    refine any_ro' (i := 4) (by kernel_rfl) rfl rfl (ro_slice sl82 rfl (bnd_of rfl rfl) rfl (by omega) (by omega)) rfl (fun _ _ _ h => h) ?_
    rw [resl_lt (by omega)]
    refine any_ro' (i := 5) (by kernel_rfl) rfl rfl (ro_move rfl) rfl (fun _ _ _ h => h) ?_
    refine any_ro' (i := 6) (by kernel_rfl) rfl rfl (ro_move rfl) rfl (fun _ _ _ h => h) ?_
    refine any_ro' (i := 7) (by kernel_rfl) rfl rfl (ro_slice sl82 rfl (bnd_of rfl rfl) rfl (by omega) (by omega)) rfl (fun _ _ _ h => h) ?_
    rw [resl_lt (by omega)]
    refine any_unlock (m' := 9) (L' := []) (by kernel_rfl) unlock ?_
    simp only [List.cons_append, List.nil_append, List.append_nil]
    refine any_eff' (i := 8) (by kernel_rfl) rfl rfl (eff_copyO 0 sl82 rfl rfl rfl (warm_zero _) (by first | exact RdN.of_pick 0 rfl (rdn_drop htk i) | exact RdN.of_pick 1 rfl (rdn_drop htk i) | exact RdN.of_pick 2 rfl (rdn_drop htk i) | exact RdN.of_pick 3 rfl (rdn_drop htk i) | exact RdN.of_pick 4 rfl (rdn_drop htk i) | exact RdN.of_pick 5 rfl (rdn_drop htk i)) (by rw [pts_len, List.length_drop]; omega) (pts_one _) (by rw [lB, pts_len, List.length_drop]; omega)) rfl ?_
    rintro _ _ ⟨rfl, rfl⟩
    simp only [List.set_cons_zero, List.set_cons_succ]
    refine any_doneH (by kernel_rfl) ?_
    refine Then_normal ?_
    refine wp_seq' ?_
    obtain ⟨hg1, hg2⟩ := ins_grow (y := y) (z := .pointer none) hi hp1
    refine wp_heap (fun w F s => own_close 0 (k := (insAt l i y).length) (xs := pts (insAt l i y)) rfl (by rw [insAt_len (by omega)]; exact hp1) hp2 hg2 hg1 (warm_zero _) w F s) ?_
    simp only [List.eraseIdx_cons_zero]
    refine wp_region' ?_
    refine ops_ro' rfl (ro_move rfl) rfl ?_
    refine ops_ro' rfl (ro_assign rfl) rfl ?_
    refine ops_nil ?_
    refine Then_normal ?_
    refine wp_ret' ?_
    refine Then_ret ?_
    refine' doneS_ret (res1 rfl rfl) ?_ ?_
    rotate_left 1
    exact ⟨_, _, by rw [insAt_len (by omega)], rfl⟩
    exact (SubH.cons 0 rfl (SubH.nil _))
  · replace hc31 := of_decide_eq_false hc31
    refine wp_skip' ?_
    refine Then_normal ?_
    refine wp_seq' ?_
    refine wp_region' ?_
    refine ops_ro' rfl (ro_move rfl) rfl ?_
    refine ops_ro' rfl (ro_move rfl) rfl ?_
    refine ops_ro' rfl (ro_move rfl) rfl ?_
    refine ops_ro' rfl (ro_add rfl rfl (show IntKind.i64.wrap ((l.length : Int) + 1) = ((l.length + 1 : Nat) : Int) by rw [wrap_i64_in (by omega) (by omega)]; omega)) rfl ?_
    refine ops_ro' rfl (ro_slice sl82 rfl rfl (bnd_of rfl rfl) (by omega) (by omega)) rfl ?_
    rw [resl_zero]
    have l3 : (pts (l.drop i)).length = l.length - i := by rw [pts_len, List.length_drop]
    have lC : (over cs (i + 1) (pts (l.drop i))).length = cs.length := over_length (by rw [l3]; omega)
    refine ops_ro' rfl (ro_assign rfl) rfl ?_
    refine ops_nil ?_
    refine Then_normal ?_
    refine wp_seq' ?_
    refine wp_seq' ?_
    refine wp_region' ?_
    refine ops_ro' rfl (ro_move rfl) rfl ?_
    refine ops_ro' rfl (ro_move rfl) rfl ?_
    refine ops_ro' rfl (ro_move rfl) rfl ?_
    refine ops_ro' rfl (ro_move rfl) rfl ?_
    refine ops_ro' rfl (ro_add rfl rfl (show IntKind.i64.wrap ((i : Int) + 1) = ((i + 1 : Nat) : Int) by rw [wrap_i64_in (by omega) (by omega)]; omega)) rfl ?_
    refine ops_ro' rfl (ro_slice sl82 rfl (bnd_of rfl rfl) rfl (by omega) (by omega)) rfl ?_
    rw [resl_lt (by omega)]
    refine ops_ro' rfl (ro_ovl rfl rfl (by omega) 1 rfl 0 rfl) rfl ?_
    refine ops_ro' rfl (ro_not rfl rfl) rfl ?_
    refine ops_nil ?_
    refine Then_normal ?_
    refine wp_condT rfl ?_
    refine wp_seq' ?_
    refine wp_draw 8 (by kernel_rfl) (Split.all _) ?_
    refine any_ro' (i := 0) (by kernel_rfl) rfl rfl (ro_move rfl) rfl (fun _ _ _ h => h) ?_
    refine any_ro' (i := 1) (by kernel_rfl) rfl rfl (ro_move rfl) rfl (fun _ _ _ h => h) ?_
    refine any_ro' (i := 2) (by kernel_rfl) rfl rfl (ro_move rfl) rfl (fun _ _ _ h => h) ?_
    refine any_ro' (i := 3) (by kernel_rfl) rfl rfl (ro_add rfl rfl (show IntKind.i64.wrap ((i : Int) + 1) = ((i + 1 : Nat) : Int) by rw [wrap_i64_in (by omega) (by omega)]; omega)) rfl (fun _ _ _ h => h) ?_
    refine any_ro' (i := 4) (by kernel_rfl) rfl rfl (ro_slice sl82 rfl (bnd_of rfl rfl) rfl (by omega) (by omega)) rfl (fun _ _ _ h => h) ?_
    rw [resl_lt (by omega)]
    refine any_ro' (i := 5) (by kernel_rfl) rfl rfl (ro_move rfl) rfl (fun _ _ _ h => h) ?_
    refine any_ro' (i := 6) (by kernel_rfl) rfl rfl (ro_move rfl) rfl (fun _ _ _ h => h) ?_
    refine any_ro' (i := 7) (by kernel_rfl) rfl rfl (ro_slice sl82 rfl (bnd_of rfl rfl) rfl (by omega) (by omega)) rfl (fun _ _ _ h => h) ?_
    rw [resl_lt (by omega)]
    refine any_unlock (m' := 9) (L' := []) (by kernel_rfl) unlock ?_
    simp only [List.cons_append, List.nil_append, List.append_nil]
    refine any_eff' (i := 8) (by kernel_rfl) rfl rfl (eff_copyO 0 sl82 rfl rfl rfl hw (by first | exact RdN.of_pick 0 rfl (rdn_drop htk i) | exact RdN.of_pick 1 rfl (rdn_drop htk i) | exact RdN.of_pick 2 rfl (rdn_drop htk i) | exact RdN.of_pick 3 rfl (rdn_drop htk i) | exact RdN.of_pick 4 rfl (rdn_drop htk i) | exact RdN.of_pick 5 rfl (rdn_drop htk i)) (by rw [l3]; omega) (pts_one _) (by rw [l3]; omega)) rfl ?_
    rintro _ _ ⟨rfl, rfl⟩
    simp only [List.set_cons_zero, List.set_cons_succ]
    refine any_doneH (by kernel_rfl) ?_
    refine Then_normal ?_
    refine wp_seq' ?_
    refine wp_region' ?_
    refine ops_ro' rfl (ro_move rfl) rfl ?_
    refine ops_ro' rfl (ro_move rfl) rfl ?_
    refine ops_ro' rfl (ro_slice sl82 rfl (bnd_of rfl rfl) rfl (by omega) (by omega)) rfl ?_
    rw [resl_lt (by omega)]
    refine ops_ro' rfl (ro_move rfl) rfl ?_
    refine ops_eff' rfl (eff_copyO 0 sl82 rfl rfl rfl (warm_len hw lC) (by first | exact RdN.of_pick 0 rfl (rdn_all) | exact RdN.of_pick 1 rfl (rdn_all) | exact RdN.of_pick 2 rfl (rdn_all) | exact RdN.of_pick 3 rfl (rdn_all) | exact RdN.of_pick 4 rfl (rdn_all) | exact RdN.of_pick 5 rfl (rdn_all)) (by show 1 = min 1 _; omega) (pts_one _) (by rw [lC]; show i + 1 ≤ _; omega)) rfl ?_
    rintro _ _ ⟨rfl, rfl⟩
    simp only [List.set_cons_zero, List.set_cons_succ]
    refine ops_nil ?_
    refine Then_normal ?_
    refine wp_seq' ?_
    obtain ⟨hg1, hg2⟩ := ins_place (y := y) hi (by omega) htk
    refine wp_heap (fun w F s => own_close 0 (k := (insAt l i y).length) (cap := c) (xs := pts (insAt l i y)) rfl (by rw [insAt_len (by omega)]; omega) hcm (by rw [hg2]; omega) hg1 (warm_len hw hg2) w F s) ?_
    simp only [List.eraseIdx_cons_zero]
    refine wp_region' ?_
    refine ops_ro' rfl (ro_move rfl) rfl ?_
    refine ops_ro' rfl (ro_assign rfl) rfl ?_
    refine ops_nil ?_
    refine Then_normal ?_
    refine wp_ret' ?_
    refine Then_ret ?_
    refine' doneS_ret (res1 rfl rfl) ?_ ?_
    rotate_left 1
    exact ⟨_, _, by rw [insAt_len (by omega)], rfl⟩
    exact (SubH.cons 0 rfl (SubH.nil _))
theorem ins_spec (p : Option Addr) (c : Nat) (l : List Nat) (hl : l.length ≤ 100000) (i : Nat) (hi : i ≤ l.length) (y vb : Nat) : Tri Try.prog 37 [.slice p l.length c, .int .i64 (i : Nat), .slice (some ⟨vb, 0, none⟩) 1 1] [rowP p c l, own vb (.cells (pts [y]).toArray 76 (0, 0))] (fun v H' => ∃ p' c', v = .slice p' (insAt l i y).length c' ∧ H' = [rowP p' c' (insAt l i y)]) := by
  by_cases h : i = l.length
  · subst h; exact insA p c l hl y vb
  · refine tri_know (fun w F s => row_shp 0 rfl s) ?_
    rintro ⟨⟨_, h1, _⟩ | ⟨b, o, rfl⟩, h2⟩
    · omega
    · refine tri_know (fun w F s => row_ptr' 0 rfl s (by omega)) ?_
      rintro ⟨b', hb⟩
      injection hb with hb; injection hb with hb ho; subst hb; subst ho
      exact tri_rowO fun cs fr g1 g2 g3 g4 g5 => insB b c l hl i (by omega) y vb cs fr g1 g2 g3 g4 g5


theorem resl_any (b c l h : Nat) : ∃ o2, resl b 0 c 1 l h = .slice (some ⟨b, o2, none⟩) (h - l) (c - l) ∧ (l < c → o2 = l) := by
  unfold resl
  by_cases e : c = l
  · exact ⟨0, by rw [if_pos e], fun h => by omega⟩
  · exact ⟨l, by rw [if_neg e, Nat.zero_add, Nat.mul_one], fun _ => rfl⟩
theorem del_place {l : List Nat} {i : Nat} {cs : List Value} {z : Value} (hi : i < l.length) (hc : l.length ≤ cs.length) (ht : cs.take (l.length * 1) = pts l) :
    (over (over cs i (pts (l.drop (i + 1)))) (l.length - 1) (List.replicate (0 + 1) z)).take ((l.eraseIdx i).length * 1) = pts (l.eraseIdx i) ∧ (over (over cs i (pts (l.drop (i + 1)))) (l.length - 1) (List.replicate (0 + 1) z)).length = cs.length := by
  have l3 : (pts (l.drop (i + 1))).length = l.length - (i + 1) := by rw [pts_len, List.length_drop]
  have l4 : (over cs i (pts (l.drop (i + 1)))).length = cs.length := over_length (by rw [l3]; omega)
  have l5 : (List.replicate (0 + 1) z).length = 1 := by rw [List.length_replicate]
  refine ⟨?_, by rw [over_length (by rw [l4, l5]; omega), l4]⟩
  have e0 : cs.take i = pts (l.take i) := by
    have h1 := congrArg (List.take i) ht
    rw [List.take_take, Nat.min_eq_left (by omega)] at h1
    have h2 := flat_take Pq.len l i
    rw [Nat.mul_one] at h2
    rw [h1]; exact h2
  have e1 : (over cs i (pts (l.drop (i + 1)))).take (l.length - 1) = pts (l.take i) ++ pts (l.drop (i + 1)) := by
    rw [over_take (by rw [l3]; omega) (by rw [l3]; omega), e0, l3, show l.length - 1 - (i + (l.length - (i + 1))) = 0 by omega, List.take_zero, List.append_nil]
  rw [List.length_eraseIdx_of_lt hi, Nat.mul_one, List.eraseIdx_eq_take_drop_succ]
  unfold over at e1 ⊢
  rw [List.append_assoc, List.take_append_of_le_length (by rw [List.length_take]; unfold over at l4; rw [l4]; omega), List.take_take, Nat.min_self, e1]
  rw [pts, pts, pts, flat_append]
theorem delB (b c : Nat) (l : List Nat) (hl : l.length ≤ 100000) (i : Nat) (hi : i < l.length) (cs : List Value) (fr : Nat × Nat) (hcap : l.length ≤ c) (hcm : c ≤ maxLen) (hcs : cs.length = c * 1) (htk : cs.take (l.length * 1) = pts l) (hw : warm cs fr) :
    Tri Try.prog 80 [.slice (some ⟨b, 0, none⟩) l.length c, .int .i64 (i : Nat), .int .i64 ((i + 1 : Nat) : Int)] [own b (.cells (cs).toArray 76 fr)] (fun v H' => ∃ p' c', v = .slice p' (l.eraseIdx i).length c' ∧ H' = [rowP p' c' (l.eraseIdx i)]) := by
  have hl1 : cs.length = c := by omega
  have hc2 := hcm
  simp only [maxLen] at hc2
  refine tri_of_wpS Try.func80 rfl Try.ntmps80 (by simp) ?_
  refine wp_seq' ?_
  refine wp_region' ?_
  refine ops_ro' rfl (ro_assign rfl) rfl ?_
  refine ops_nil ?_
  refine Then_normal ?_
  refine wp_seq' ?_
  refine wp_region' ?_
  refine ops_ro' rfl (ro_move rfl) rfl ?_
  refine ops_ro' rfl (ro_move rfl) rfl ?_
  refine ops_ro' rfl (ro_move rfl) rfl ?_
  refine ops_ro' rfl (ro_move rfl) rfl ?_
  refine ops_ro' rfl (ro_sliceLen Try.underlying82 rfl) rfl ?_
  refine ops_ro' rfl (ro_slice3 sl82 rfl rfl rfl rfl (by omega) (by omega) (by omega)) rfl ?_
  refine ops_nil ?_
  refine Then_normal ?_
  refine wp_seq' ?_
  refine wp_seq' ?_
  refine wp_region' ?_
  refine ops_ro' rfl (ro_move rfl) rfl ?_
  refine ops_ro' rfl (ro_move rfl) rfl ?_
  refine ops_ro' rfl (ro_eql rfl rfl (decide_eq_false (by omega))) rfl ?_
  refine ops_nil ?_
  refine Then_normal ?_
  refine wp_condF rfl ?_
  refine wp_skip' ?_
  refine Then_normal ?_
  refine wp_seq' ?_
  refine wp_region' ?_
  refine ops_ro' rfl (ro_move rfl) rfl ?_
  refine ops_ro' rfl (ro_sliceLen Try.underlying82 rfl) rfl ?_
  refine ops_ro' rfl (ro_assign rfl) rfl ?_
  refine ops_nil ?_
  refine Then_normal ?_
  refine wp_seq' ?_
  refine wp_draw 6 (by kernel_rfl) (Split.all _) ?_
  refine any_ro' (i := 0) (by kernel_rfl) rfl rfl (ro_move rfl) rfl (fun _ _ _ h => h) ?_
  refine any_ro' (i := 1) (by kernel_rfl) rfl rfl (ro_move rfl) rfl (fun _ _ _ h => h) ?_
  refine any_ro' (i := 2) (by kernel_rfl) rfl rfl (ro_slice sl82 rfl rfl (bnd_of rfl rfl) (by omega) (by omega)) rfl (fun _ _ _ h => h) ?_
  rw [resl_zero]
  refine any_ro' (i := 3) (by kernel_rfl) rfl rfl (ro_move rfl) rfl (fun _ _ _ h => h) ?_
  refine any_ro' (i := 4) (by kernel_rfl) rfl rfl (ro_move rfl) rfl (fun _ _ _ h => h) ?_
  refine any_ro' (i := 5) (by kernel_rfl) rfl rfl (ro_slice sl82 rfl (bnd_of rfl rfl) rfl (by omega) (by omega)) rfl (fun _ _ _ h => h) ?_
  obtain ⟨o2, ho2, ho3⟩ := resl_any b c (i + 1) l.length
  rw [ho2]
  have hrd : RdN (own b (.cells (cs).toArray 76 fr)) b o2 (pts (l.drop (i + 1))) := by
    by_cases h : i + 1 < c
    · rw [ho3 h]; exact rdn_drop htk (i + 1)
    · rw [List.drop_of_length_le (by omega)]; intro j v hj; rw [show pts [] = ([] : List Value) from rfl, List.getElem?_nil] at hj; cases hj
  have l3 : (pts (l.drop (i + 1))).length = l.length - (i + 1) := by rw [pts_len, List.length_drop]
  refine any_unlock (m' := 8) (L' := []) (by kernel_rfl) unlock ?_
  simp only [List.cons_append, List.nil_append, List.append_nil]
  refine any_eff' (i := 6) (by kernel_rfl) rfl rfl (eff_appendO 0 sl82 Try.underlying82 rfl rfl rfl hw (by first | exact RdN.of_pick 0 rfl (hrd) | exact RdN.of_pick 1 rfl (hrd)) l3 (pts_one _) (by omega) (by omega)) rfl ?_
  rintro _ _ ⟨rfl, rfl⟩
  try simp only [List.set_cons_zero, List.set_cons_succ]
  rw [show i + (l.length - (i + 1)) = l.length - 1 by omega]
  have lC : (over cs i (pts (l.drop (i + 1)))).length = cs.length := over_length (by rw [l3]; omega)
  refine any_ro' (i := 7) (by kernel_rfl) rfl rfl (ro_assign rfl) rfl (fun _ _ _ h => h) ?_
  refine any_doneH (by kernel_rfl) ?_
  refine Then_normal ?_
  refine wp_seq' ?_
  refine wp_region' ?_
  refine ops_ro' rfl (ro_move rfl) rfl ?_
  refine ops_ro' rfl (ro_move rfl) rfl ?_
  refine ops_ro' rfl (ro_sliceLen Try.underlying82 rfl) rfl ?_
  refine ops_ro' rfl (ro_move rfl) rfl ?_
  refine ops_ro' rfl (ro_slice sl82 rfl (bnd_of rfl rfl) (bnd_of rfl rfl) (by omega) (by omega)) rfl ?_
  rw [resl_lt (by omega), show l.length - (l.length - 1) = 0 + 1 by omega]
  refine ops_eff0 rfl (eff_clearO 0 sl82 rfl rfl rfl rfl (warm_len hw lC) (by rw [lC]; omega)) rfl ?_
  rintro _ _ ⟨rfl, rfl⟩
  try simp only [List.set_cons_zero, List.set_cons_succ]
  refine ops_nil ?_
  refine Then_normal ?_
  refine wp_seq' ?_
  obtain ⟨hg1, hg2⟩ := del_place (z := .pointer none) hi (by omega) htk
  have hle : (l.eraseIdx i).length = l.length - 1 := List.length_eraseIdx_of_lt hi
  refine wp_heap (fun w F s => own_close 0 (k := (l.eraseIdx i).length) (cap := c) (xs := pts (l.eraseIdx i)) rfl (by omega) hcm (by rw [hg2]; omega) hg1 (warm_len hw hg2) w F s) ?_
  try simp only [List.eraseIdx_cons_zero]
  refine wp_region' ?_
  refine ops_ro' rfl (ro_move rfl) rfl ?_
  refine ops_ro' rfl (ro_assign rfl) rfl ?_
  refine ops_nil ?_
  refine Then_normal ?_
  refine wp_ret' ?_
  refine' doneS_ret (res1 rfl rfl) ?_ ?_
  rotate_left 1
  exact ⟨_, _, by rw [hle], rfl⟩
  exact SubH.refl _
theorem del_spec (p : Option Addr) (c : Nat) (l : List Nat) (hl : l.length ≤ 100000) (i : Nat) (hi : i < l.length) : Tri Try.prog 80 [.slice p l.length c, .int .i64 (i : Nat), .int .i64 ((i + 1 : Nat) : Int)] [rowP p c l] (fun v H' => ∃ p' c', v = .slice p' (l.eraseIdx i).length c' ∧ H' = [rowP p' c' (l.eraseIdx i)]) := by
  refine tri_know (fun w F s => row_ptr' 0 rfl s (by omega)) ?_
  rintro ⟨b, rfl⟩
  exact tri_rowO fun cs fr g1 g2 g3 g4 g5 => delB b c l hl i hi cs fr g1 g2 g3 g4 g5

end Go.Proofs.Ytbbmhppkhcodfaa
