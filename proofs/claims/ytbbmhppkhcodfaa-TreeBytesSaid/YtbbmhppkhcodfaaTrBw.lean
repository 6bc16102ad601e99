/-
  The walk of TreeBytes.
-/
import Derived.Test.YtbbmhppkhcodfaaTrB
namespace Go.Proofs.Ytbbmhppkhcodfaa
open Go.Sx
set_option linter.unusedVariables false
set_option linter.unusedSimpArgs false
set_option maxRecDepth 100000
set_option maxHeartbeats 4000000

theorem hroot {t : Tr} {r : Nd} (h : Wf t r) : (([r] : List Nd).map fun x : Nd => x.data.length).sum = 0 := by rw [List.map_cons, h.dat r h.root h.rdir]; rfl
theorem tri_arg {f : FuncId} {t : Tr} {tb : Nat} {args : List Value} {H : List HProp} {Ψ : Value → List HProp → Prop} (h : t.tb = tb) (hT : Tri Try.prog f (t.v :: args) H Ψ) : Tri Try.prog f (.pointer (some ⟨tb, 0, none⟩) :: args) H Ψ := by rw [← h]; exact hT
theorem put2_vl {w v y : List UInt8} {k : Nat} (hl : v.length = max (k + y.length) w.length) (hy : 0 < y.length) : (put2 w k y).length = v.length := by
  unfold put2; rw [if_neg (by omega), wr2_len (by rw [szd_len]; omega), szd_len, hl]
theorem put2_row {w v y : List UInt8} {k : Nat} (hv : v = szd w (max (k + y.length) w.length)) (hl : v.length = max (k + y.length) w.length) (hy : 0 < y.length) : v.take k ++ y.take (v.length - k) ++ v.drop (k + min y.length (v.length - k)) = put2 w k y := by
  rw [wr2_eq (by omega)]; unfold put2; rw [if_neg (by omega), hv]
theorem treebytes_run (V : HProp) (q : Option Addr) (cq : Nat) (l : List (Slv UInt8)) (hL : Vw V (.slice q l.length cq) l.length (flat Sq.cs l)) (hl : l.length ≤ 9223372036854775807) (hA : ∀ x ∈ l, Vw V (.slice x.p x.l.length x.c) x.l.length (cel x.l) ∧ x.l.length ≤ x.c) (q2 : Option Addr) (cq2 : Nat) (a : List Int) (hI : Vw V (.slice q2 a.length cq2) a.length (flat In.cs a)) :
    Tri Try.prog 3 [.slice q l.length cq, .slice q2 a.length cq2] [V] (fun v H' => v = .bool true ∧ H' = [V]) := by
  refine tri_of_wpS Try.func3 rfl Try.ntmps3 (by simp) ?_
  refine wp_seq' ?_
  refine wp_region' ?_
  refine ops_ro' rfl (ro_assign rfl) rfl ?_
  refine ops_nil ?_
  refine Then_normal ?_
  refine wp_seq' ?_
  refine wp_region' ?_
  refine ops_eff' rfl (eff_call Try.call10 rfl rfl (by repeat (first | exact Split.nil _ | apply Split.cons 0 rfl | apply Split.cons 1 rfl | apply Split.cons 2 rfl | apply Split.cons 3 rfl | apply Split.cons 4 rfl | apply Split.cons 5 rfl | apply Split.cons 6 rfl | apply Split.cons 7 rfl | apply Split.cons 8 rfl | apply Split.cons 9 rfl | apply Split.cons 10 rfl | apply Split.cons 11 rfl)) (new_spec)) rfl ?_
  rintro _ H' ⟨_, ⟨t0, r0, rfl, hn1, hn2, hW0, rfl⟩, hH⟩
  simp only [List.cons_append, List.nil_append, List.eraseIdx_cons_zero, List.eraseIdx_cons_succ, List.set_cons_zero, List.set_cons_succ] at hH
  subst hH
  refine ops_ro' rfl (ro_assign rfl) rfl ?_
  refine ops_nil ?_
  refine Then_normal ?_
  refine wp_seq' ?_
  refine wp_seq' ?_
  refine wp_region' ?_
  refine ops_ro' rfl (ro_move rfl) rfl ?_
  refine ops_ro' rfl (ro_ptrEqlNil Try.underlying24 rfl rfl rfl) rfl ?_
  refine ops_nil ?_
  refine Then_normal ?_
  refine wp_condF rfl ?_
  refine wp_skip' ?_
  refine Then_normal ?_
  refine wp_seq' ?_
  refine wp_region' ?_
  refine ops_ro' rfl (ro_move rfl) rfl ?_
  refine ops_eff' rfl (eff_lit sl29 rfl (sbld (cs := txs [[102]]) [(.string ByteArray.empty)] sl29 (by decide) (by kernel_rfl) rfl) rfl (by decide)) rfl ?_
  rintro _ _ ⟨b23, rfl, rfl⟩
  refine ops_eff' rfl (eff_call Try.call11 rfl rfl (by repeat (first | exact Split.nil _ | apply Split.cons 0 rfl | apply Split.cons 1 rfl | apply Split.cons 2 rfl | apply Split.cons 3 rfl | apply Split.cons 4 rfl | apply Split.cons 5 rfl | apply Split.cons 6 rfl | apply Split.cons 7 rfl | apply Split.cons 8 rfl | apply Split.cons 9 rfl | apply Split.cons 10 rfl | apply Split.cons 11 rfl)) (make_spec (V := row 9 1 (.slice (some ⟨b23, 0, none⟩) 1 1) 1 (txs [[102]])) hW0 (by omega) _ _ [[102]] Vw.row (by decide) (by decide) (by decide) false)) rfl ?_
  rintro _ H' ⟨_, ⟨t1, r1, i1, e1, rfl, hR1, hW1, rfl⟩, hH⟩
  simp only [List.cons_append, List.nil_append, List.eraseIdx_cons_zero, List.eraseIdx_cons_succ, List.set_cons_zero, List.set_cons_succ] at hH
  subst hH
  obtain ⟨rfl, rfl, hx1, hx0, htb, bb, _, hid, _, hx2⟩ := mk_first hW0 hn1 (by decide) hR1
  rw [hn2] at hx1 hx2 ⊢
  have hF0 : F1 t1 r1 [] := f1_new (t0n := 0) hW1 hid hx2 (by rw [hx0, hW0.sum, hn1, hroot hW0])
  obtain ⟨tb, htb2⟩ : ∃ tb, tb = t1.tb := ⟨_, rfl⟩
  rw [show Tr.v t0 = .pointer (some ⟨tb, 0, none⟩) from by rw [Tr.v, htb2, htb]]
  refine ops_ro' rfl (ro_move rfl) rfl ?_
  refine ops_ro' rfl (ro_extract rfl rfl) rfl ?_
  refine ops_ro' rfl (ro_extract rfl rfl) rfl ?_
  refine ops_ro' rfl (ro_assign rfl) rfl ?_
  refine ops_ro' rfl (ro_assign rfl) rfl ?_
  refine ops_nil ?_
  refine Then_normal ?_
  refine wp_seq' ?_
  refine wp_seq' ?_
  refine wp_region' ?_
  refine ops_ro' rfl (ro_move rfl) rfl ?_
  refine ops_ro' rfl (ro_neq rfl rfl (decide_eq_false (by omega))) rfl ?_
  refine ops_nil ?_
  refine Then_normal ?_
  refine wp_condF rfl ?_
  refine wp_skip' ?_
  refine Then_normal ?_
  refine wp_seq' ?_
  refine wp_region' ?_
  refine ops_ro' rfl (ro_assign rfl) rfl ?_
  refine ops_nil ?_
  refine Then_normal ?_
  refine wp_seq' ?_
  refine wp_seq' ?_
  refine wp_region' ?_
  refine ops_ro' rfl (ro_assign rfl) rfl ?_
  refine ops_nil ?_
  refine Then_normal ?_
  refine wp_block' ?_
  refine wp_loopK 9 (fun m Δ LL => ∃ (i : Nat) (t : Tr) (p8 : Option Addr) (c8 : Nat) (w : List UInt8), (i + m = l.length ∧ t.tb = tb ∧ F1 t r1 w) ∧ Δ = [(8, .slice p8 w.length c8), (9, .int .i64 (i : Nat))] ∧ LL = [row 5 1 (.slice p8 w.length c8) w.length (cel w), tree t, V]) (m := l.length) (Has.cons (k := 0) rfl (Has.cons (k := 1) rfl (Has.cons (k := 5) rfl (Has.cons (k := 6) rfl (Has.nil _))))) (kept ⟨0, t1, none, 0, [], ⟨by omega, htb2.symm, hF0⟩, rfl, rfl⟩ (by repeat (first | exact Has.nil _ | refine Has.cons rfl ?_)) (by repeat (first | exact Has.nil _ | refine Has.cons rfl ?_)) (by repeat (first | exact SubH.nil _ | refine SubH.cons 0 rfl ?_ | refine SubH.cons 1 rfl ?_ | refine SubH.cons 2 rfl ?_ | refine SubH.cons 3 rfl ?_ | refine SubH.cons 4 rfl ?_ | refine SubH.cons 5 rfl ?_ | refine SubH.cons 6 rfl ?_ | refine SubH.cons 7 rfl ?_ | refine SubH.cons 8 rfl ?_ | refine SubH.cons 9 rfl ?_ | refine SubH.cons 10 rfl ?_ | refine SubH.cons 11 rfl ?_ | refine SubH.cons 12 rfl ?_ | refine SubH.cons 13 rfl ?_ | refine SubH.rown ?_))) ?_
  rintro m Δ LL ⟨i, t, p8, c8, w, ⟨hm, htb3, hF⟩, rfl, rfl⟩
  simp only [List.cons_append, List.nil_append]
  refine wp_seq' ?_
  refine wp_seq' ?_
  refine wp_region' ?_
  refine ops_ro' rfl (ro_move rfl) rfl ?_
  refine ops_ro' rfl (ro_move rfl) rfl ?_
  refine ops_ro' rfl (ro_sliceLen Try.underlying22 rfl) rfl ?_
  refine ops_ro' rfl (ro_lss rfl rfl rfl) rfl ?_
  refine ops_split rfl rfl rfl (fun hg33 => ?_) (fun hg33 => ?_)
  · replace hg33 := of_decide_eq_true hg33
    refine ops_ro' rfl (ro_move rfl) rfl ?_
    refine ops_ro' rfl (ro_move rfl) rfl ?_
    refine ops_ro' rfl (ro_sliceLen Try.underlying23 rfl) rfl ?_
    refine ops_ro' rfl (ro_lss rfl rfl rfl) rfl ?_
    refine ops_ro' rfl (ro_pick rfl rfl) rfl ?_
    refine ops_split rfl rfl rfl (fun hg39 => ?_) (fun hg39 => ?_)
    · replace hg39 := of_decide_eq_true hg39
      refine ops_ro' rfl (ro_move rfl) rfl ?_
      refine ops_ro' rfl (ro_lss rfl rfl rfl) rfl ?_
      refine ops_ro' rfl (ro_pick rfl rfl) rfl ?_
      refine ops_nil ?_
      refine Then_normal ?_
      refine wp_cond' rfl (fun hc42 => ?_) (fun hc42 => ?_)
      · replace hc42 := of_decide_eq_true hc42
        refine wp_skip' ?_
        refine Then_normal ?_
        refine wp_seq' ?_
        refine wp_block' ?_
        refine wp_seq' ?_
        have hi : i < l.length := by omega
        have hj : i < a.length := by omega
        obtain ⟨hsv, hsc⟩ := hA l[i] (List.getElem_mem hi)
        refine wp_know (fun w F s => vw_ptr (Vw.pick (H := [_, _, V]) 2 rfl hL) s (by omega)) ?_
        rintro ⟨b1, o1, rfl⟩
        refine wp_know (fun w F s => vw_ptr (Vw.pick (H := [_, _, V]) 2 rfl hI) s (by omega)) ?_
        rintro ⟨b2, o2, rfl⟩
        have hw7 := hF.le
        refine wp_region' ?_
        refine ops_ro' rfl (ro_move rfl) rfl ?_
        refine ops_ro' rfl (ro_move rfl) rfl ?_
        refine ops_ro' rfl (ro_indexSlice sl22 rfl rfl rfl (by omega)) rfl ?_
        refine ops_ro' rfl (ro_load sc30 rfl (Rd.pick 2 rfl (Rd.elem (j := 0) (vw_rdn hL) Sq.len (List.getElem?_eq_getElem hi) rfl))) rfl ?_
        refine ops_eff' rfl (eff_call Try.call12 rfl rfl (by repeat (first | exact Split.nil _ | apply Split.cons 0 rfl | apply Split.cons 1 rfl | apply Split.cons 2 rfl | apply Split.cons 3 rfl | apply Split.cons 4 rfl | apply Split.cons 5 rfl | apply Split.cons 6 rfl | apply Split.cons 7 rfl | apply Split.cons 8 rfl | apply Split.cons 9 rfl | apply Split.cons 10 rfl | apply Split.cons 11 rfl)) (kCut V l[i].p l[i].c l[i].l 200 hsv hsc)) rfl ?_
        rintro _ H' ⟨_, ⟨_, ⟨p10, c10, rfl, hv10, hc10, rfl⟩, rfl⟩, hH⟩
        simp only [List.cons_append, List.nil_append, List.eraseIdx_cons_zero, List.eraseIdx_cons_succ, List.set_cons_zero, List.set_cons_succ] at hH
        subst hH
        have hy2 : (l[i].l.take 200).length ≤ 200 := by rw [List.length_take]; omega
        generalize l[i].l.take 200 = y at *
        refine ops_ro' rfl (ro_assign rfl) rfl ?_
        refine ops_nil ?_
        refine Then_normal ?_
        refine wp_seq' ?_
        refine wp_region' ?_
        refine ops_ro' rfl (ro_move rfl) rfl ?_
        refine ops_ro' rfl (ro_move rfl) rfl ?_
        refine ops_ro' rfl (ro_indexSlice sl23 rfl rfl rfl (by omega)) rfl ?_
        refine ops_ro' rfl (ro_load sc3 rfl (Rd.pick 0 rfl (Rd.elem (j := 0) (vw_rdn hI) In.len (List.getElem?_eq_getElem hj) rfl))) rfl ?_
        refine ops_eff' rfl (eff_call Try.call13 rfl rfl (by repeat (first | exact Split.nil _ | apply Split.cons 0 rfl | apply Split.cons 1 rfl | apply Split.cons 2 rfl | apply Split.cons 3 rfl | apply Split.cons 4 rfl | apply Split.cons 5 rfl | apply Split.cons 6 rfl | apply Split.cons 7 rfl | apply Split.cons 8 rfl | apply Split.cons 9 rfl | apply Split.cons 10 rfl | apply Split.cons 11 rfl)) (within_spec a[i] 0 500 (by omega) (by omega) (by omega))) rfl ?_
        rintro _ H' ⟨_, ⟨rfl, rfl⟩, hH⟩
        simp only [List.cons_append, List.nil_append, List.eraseIdx_cons_zero, List.eraseIdx_cons_succ, List.set_cons_zero, List.set_cons_succ] at hH
        subst hH
        obtain ⟨k, hk, hk5⟩ : ∃ k : Nat, 0 + a[i] % (500 - 0 + 1) = (k : Int) ∧ k ≤ 500 := ⟨(a[i] % (500 - 0 + 1)).toNat, by omega, by omega⟩
        rw [hk]
        refine ops_ro' rfl (ro_assign rfl) rfl ?_
        refine ops_nil ?_
        refine Then_normal ?_
        refine wp_seq' ?_
        refine wp_seq' ?_
        refine wp_region' ?_
        refine ops_ro' rfl (ro_move rfl) rfl ?_
        refine ops_ro' rfl (ro_move rfl) rfl ?_
        refine ops_ro' rfl (ro_move rfl) rfl ?_
        refine ops_ro' rfl (ro_conv Try.underlying3 Try.underlying34 rfl (wrap_u64_in (by omega) (by omega))) rfl ?_
        refine ops_ro' rfl (ro_move rfl) rfl ?_
        refine ops_eff' rfl (eff_call Try.call14 rfl rfl (by repeat (first | exact Split.nil _ | apply Split.cons 0 rfl | apply Split.cons 1 rfl | apply Split.cons 2 rfl | apply Split.cons 3 rfl | apply Split.cons 4 rfl | apply Split.cons 5 rfl | apply Split.cons 6 rfl | apply Split.cons 7 rfl | apply Split.cons 8 rfl | apply Split.cons 9 rfl | apply Split.cons 10 rfl | apply Split.cons 11 rfl)) (tri_arg (htb3) (write_spec hF.wf 1 k (by omega) p10 c10 y hv10 (by omega)))) rfl ?_
        rintro _ H' ⟨_, ⟨t2, e2, rfl, hR2, rfl⟩, hH⟩
        simp only [List.cons_append, List.nil_append, List.eraseIdx_cons_zero, List.eraseIdx_cons_succ, List.set_cons_zero, List.set_cons_succ] at hH
        subst hH
        obtain ⟨rfl, hF2, ht2⟩ := f1_write hF hk5 hy2 hR2
        refine ops_ro' rfl (ro_neq rfl rfl (decide_eq_false (by omega))) rfl ?_
        refine ops_nil ?_
        refine Then_normal ?_
        refine wp_condF rfl ?_
        refine wp_skip' ?_
        refine Then_normal ?_
        refine wp_cutK 1019 (fun Δ LL => ∃ (p9 : Option Addr) (c9 : Nat) (w2 : List UInt8), (w2 = put2 w k y) ∧ Δ = [(8, .slice p9 w2.length c9)] ∧ LL = [row 5 1 (.slice p9 w2.length c9) w2.length (cel w2), tree t2, V]) (Has.cons (k := 0) rfl (Has.cons (k := 1) rfl (Has.cons (k := 5) rfl (Has.cons (k := 6) rfl (Has.cons (k := 9) rfl (Has.cons (k := 10) rfl (Has.cons (k := 11) rfl (Has.nil _)))))))) ?_ ?_
        · refine wp_seq' ?_
          refine wp_region' ?_
          refine ops_ro' rfl (ro_move rfl) rfl ?_
          refine ops_ro' rfl (ro_sliceLen Try.underlying30 rfl) rfl ?_
          refine ops_ro' rfl (ro_gtr rfl rfl rfl) rfl ?_
          refine ops_nil ?_
          refine Then_normal ?_
          refine wp_cond' rfl (fun hc64 => ?_) (fun hc64 => ?_)
          · replace hc64 := of_decide_eq_true hc64
            refine wp_seq' ?_
            refine wp_block' ?_
            refine wp_loopK 16 (fun m Δ LL => ∃ (j : Nat) (p9 : Option Addr) (c9 : Nat) (v : List UInt8), (k + y.length - (w.length + j) = m ∧ v = w ++ List.replicate j 0 ∧ (j = 0 ∨ w.length + j ≤ k + y.length)) ∧ Δ = [(8, .slice p9 v.length c9)] ∧ LL = [row 5 1 (.slice p9 v.length c9) v.length (cel v), tree t2, V]) (m := k + y.length - w.length) (Has.cons (k := 0) rfl (Has.cons (k := 1) rfl (Has.cons (k := 5) rfl (Has.cons (k := 6) rfl (Has.cons (k := 9) rfl (Has.cons (k := 10) rfl (Has.cons (k := 11) rfl (Has.nil _)))))))) (kept ⟨0, p8, c8, w, ⟨by omega, by simp, .inl rfl⟩, rfl, rfl⟩ (by repeat (first | exact Has.nil _ | refine Has.cons rfl ?_)) (by repeat (first | exact Has.nil _ | refine Has.cons rfl ?_)) (by repeat (first | exact SubH.nil _ | refine SubH.cons 0 rfl ?_ | refine SubH.cons 1 rfl ?_ | refine SubH.cons 2 rfl ?_ | refine SubH.cons 3 rfl ?_ | refine SubH.cons 4 rfl ?_ | refine SubH.cons 5 rfl ?_ | refine SubH.cons 6 rfl ?_ | refine SubH.cons 7 rfl ?_ | refine SubH.cons 8 rfl ?_ | refine SubH.cons 9 rfl ?_ | refine SubH.cons 10 rfl ?_ | refine SubH.cons 11 rfl ?_ | refine SubH.cons 12 rfl ?_ | refine SubH.cons 13 rfl ?_ | refine SubH.rown ?_))) ?_
            rintro m3 Δ LL ⟨j, p9, c9, v, ⟨hjm, hv, hjn⟩, rfl, rfl⟩
            simp only [List.cons_append, List.nil_append]
            refine wp_seq' ?_
            refine wp_seq' ?_
            refine wp_region' ?_
            refine ops_ro' rfl (ro_move rfl) rfl ?_
            refine ops_ro' rfl (ro_sliceLen Try.underlying30 rfl) rfl ?_
            refine ops_ro' rfl (ro_move rfl) rfl ?_
            refine ops_ro' rfl (ro_move rfl) rfl ?_
            refine ops_ro' rfl (ro_sliceLen Try.underlying30 rfl) rfl ?_
            refine ops_ro' rfl (ro_add rfl rfl (wrap_i64_in (by omega) (by omega))) rfl ?_
            refine ops_ro' rfl (ro_lss rfl rfl rfl) rfl ?_
            refine ops_nil ?_
            refine Then_normal ?_
            refine wp_cond' rfl (fun hc71 => ?_) (fun hc71 => ?_)
            · replace hc71 := of_decide_eq_true hc71
              have hvl : v.length = w.length + j := by rw [hv]; simp
              refine wp_skip' ?_
              refine Then_normal ?_
              refine wp_block' ?_
              refine wp_region' ?_
              refine ops_ro' rfl (ro_move rfl) rfl ?_
              refine ops_eff' rfl (eff_lit sl30 rfl (sbld (cs := cel [0]) [(.int .u8 0)] sl30 (by decide) (by kernel_rfl) rfl) rfl (by decide)) rfl ?_
              rintro _ _ ⟨b73, rfl, rfl⟩
              refine ops_eff' rfl (eff_appB (l2 := [0]) 1 sl30 (.inl ⟨5, Try.underlying30⟩) rfl rfl rfl (by first | exact Src.strl | exact Src.celv (Vw.pick 0 rfl hv10) | exact Src.celv (Vw.pick 1 rfl hv10) | exact Src.celv (Vw.pick 2 rfl hv10) | exact Src.celv (Vw.pick 3 rfl hv10) | exact Src.celv (Vw.pick 4 rfl hv10) | exact Src.celv (Vw.pick 5 rfl hv10) | exact Src.celv (Vw.pick 6 rfl hv10) | exact Src.celv (Vw.pick 7 rfl hv10) | exact Src.celv (Vw.pick 0 rfl Vw.row) | exact Src.celv (Vw.pick 1 rfl Vw.row) | exact Src.celv (Vw.pick 2 rfl Vw.row) | exact Src.celv (Vw.pick 3 rfl Vw.row) | exact Src.celv (Vw.pick 4 rfl Vw.row) | exact Src.celv (Vw.pick 5 rfl Vw.row) | exact Src.celv (Vw.pick 6 rfl Vw.row) | exact Src.celv (Vw.pick 7 rfl Vw.row) | exact Src.celv (Vw.pick 0 rfl Vw.row) | exact Src.celv (Vw.pick 1 rfl Vw.row) | exact Src.celv (Vw.pick 2 rfl Vw.row) | exact Src.celv (Vw.pick 3 rfl Vw.row) | exact Src.celv (Vw.pick 4 rfl Vw.row) | exact Src.celv (Vw.pick 5 rfl Vw.row) | exact Src.celv (Vw.pick 6 rfl Vw.row) | exact Src.celv (Vw.pick 7 rfl Vw.row)) (by simp only [List.length_cons, List.length_nil]; omega)) rfl ?_
              rintro _ _ ⟨p74, c74, rfl, hn74, rfl⟩
              simp only [List.set_cons_zero, List.set_cons_succ]
              refine ops_ro' rfl (ro_assign rfl) rfl ?_
              refine ops_nil ?_
              refine InBlock_normal ?_
              refine Then_normal ?_
              refine back (m3 - 1) (by omega) (kept ⟨j + 1, p74, c74, v ++ [0], ⟨by omega, pad_step (n := 0) hv, .inr (by omega)⟩, rfl, rfl⟩ ?_ ?_ ?_)
              · exact (by repeat (first | exact Has.nil _ | refine Has.cons rfl ?_))
              · exact (by repeat (first | exact Has.nil _ | refine Has.cons rfl ?_))
              · exact (SubH.cons 1 rfl (SubH.cons 1 rfl (SubH.cons 1 rfl (SubH.nil _))))
            · replace hc71 := of_decide_eq_false hc71
              have hvs := pad_szd (n := k + y.length) hv hjn (by omega)
              have hvl : v.length = max (k + y.length) w.length := by rw [hvs, szd_len]
              refine wp_know (fun w F s => row_ptr' 0 rfl s (by omega)) ?_
              rintro ⟨b9, rfl⟩
              refine wp_exit' ?_
              refine Then_exit ?_
              refine Then_exit ?_
              refine InBlock_here ?_
              refine Then_normal ?_
              refine wp_know (fun w F s => row_caps 0 rfl s) ?_
              intro hcv
              refine wp_region' ?_
              refine ops_ro' rfl (ro_move rfl) rfl ?_
              refine ops_ro' rfl (ro_move rfl) rfl ?_
              refine ops_ro' rfl (ro_slice sl30 rfl (bnd_of rfl rfl) rfl (by omega) hcv) rfl ?_
              rw [resl_lt (by omega)]
              refine ops_ro' rfl (ro_move rfl) rfl ?_
              refine ops_eff' rfl (eff_copyB (s := y) 0 sl30 rfl rfl rfl (by first | exact (Vw.pick 0 rfl hv10) | exact (Vw.pick 1 rfl hv10) | exact (Vw.pick 2 rfl hv10) | exact (Vw.pick 3 rfl hv10) | exact (Vw.pick 4 rfl hv10) | exact (Vw.pick 5 rfl hv10) | exact (Vw.pick 6 rfl hv10) | exact (Vw.pick 7 rfl hv10) | exact (Vw.pick 0 rfl Vw.row) | exact (Vw.pick 1 rfl Vw.row) | exact (Vw.pick 2 rfl Vw.row) | exact (Vw.pick 3 rfl Vw.row) | exact (Vw.pick 4 rfl Vw.row) | exact (Vw.pick 5 rfl Vw.row) | exact (Vw.pick 6 rfl Vw.row) | exact (Vw.pick 7 rfl Vw.row) | exact Vw.pick 0 rfl Vw.row | exact Vw.pick 1 rfl Vw.row | exact Vw.pick 2 rfl Vw.row | exact Vw.pick 3 rfl Vw.row | exact Vw.pick 4 rfl Vw.row | exact Vw.pick 5 rfl Vw.row | exact Vw.pick 6 rfl Vw.row | exact Vw.pick 7 rfl Vw.row) (by first | omega | (simp; done) | (simp; omega))) rfl ?_
              rintro _ _ ⟨rfl, rfl⟩
              simp only [List.set_cons_zero, List.set_cons_succ]
              rw [put2_row hvs hvl (by omega), ← put2_vl hvl (show 0 < y.length by omega)]
              refine ops_nil ?_
              refine Then_normal ?_
              refine over_cut (kept ⟨(some ⟨b9, 0, none⟩), c9, put2 w k y, rfl, rfl, rfl⟩ ?_ ?_ ?_)
              · exact (by repeat (first | exact Has.nil _ | refine Has.cons rfl ?_))
              · exact (by repeat (first | exact Has.nil _ | refine Has.cons rfl ?_))
              · exact SubH.refl _
          · replace hc64 := of_decide_eq_false hc64
            refine wp_skip' ?_
            refine Then_normal ?_
            refine over_cut (kept ⟨p8, c8, w, (by unfold put2; rw [if_pos (by omega)]), rfl, rfl⟩ ?_ ?_ ?_)
            · exact (by repeat (first | exact Has.nil _ | refine Has.cons rfl ?_))
            · exact (by repeat (first | exact Has.nil _ | refine Has.cons rfl ?_))
            · exact (SubH.cons 2 rfl (SubH.cons 0 rfl (SubH.cons 0 rfl (SubH.nil _))))
        · rintro Δ LL ⟨p9, c9, w2, rfl, rfl, rfl⟩
          simp only [List.cons_append, List.nil_append]
          refine wp_seq' ?_
          refine wp_region' ?_
          refine ops_ro' rfl (ro_move rfl) rfl ?_
          refine ops_ro' rfl (ro_move rfl) rfl ?_
          refine ops_ro' rfl (ro_move rfl) rfl ?_
          refine ops_ro' rfl (ro_conv Try.underlying3 Try.underlying34 rfl (wrap_u64_in (by omega) (by omega))) rfl ?_
          refine ops_ro' rfl (ro_move rfl) rfl ?_
          refine ops_ro' rfl (ro_sliceLen Try.underlying30 rfl) rfl ?_
          refine ops_ro' rfl (ro_conv Try.underlying3 Try.underlying37 rfl (wrap_u32_in (by omega) (by omega))) rfl ?_
          refine ops_eff' rfl (eff_callM (Pre := []) Try.call15 rfl rfl (Split.nil _) (tri_arg (by rw [ht2, htb3]) (read_spec (by first | exact Tv.pick 0 rfl (tree_tv t2) | exact Tv.pick 1 rfl (tree_tv t2) | exact Tv.pick 2 rfl (tree_tv t2) | exact Tv.pick 3 rfl (tree_tv t2) | exact Tv.pick 4 rfl (tree_tv t2)) 1 k (by omega) y.length (by omega) (f1_dl hF2)))) rfl ?_
          rintro _ H' ⟨_, ⟨p88, c88, rfl, rfl⟩, hH⟩
          simp only [List.cons_append, List.nil_append, List.eraseIdx_cons_zero, List.eraseIdx_cons_succ, List.set_cons_zero, List.set_cons_succ] at hH
          subst hH
          obtain ⟨z, hz⟩ : ∃ z, readO (byId t2.ns 1) k y.length = z := ⟨_, rfl⟩
          rw [hz]
          have hz2 : 0 < y.length → z = (y, 0) := fun h => by rw [← hz, f1_read hF2]; exact put2_read h hy2 hk5
          obtain ⟨zl, ze⟩ := z
          dsimp only
          refine ops_ro' rfl (ro_move rfl) rfl ?_
          refine ops_ro' rfl (ro_extract rfl rfl) rfl ?_
          refine ops_ro' rfl (ro_extract rfl rfl) rfl ?_
          refine ops_ro' rfl (ro_assign rfl) rfl ?_
          refine ops_ro' rfl (ro_assign rfl) rfl ?_
          refine ops_nil ?_
          refine Then_normal ?_
          refine wp_seq' ?_
          refine wp_region' ?_
          refine ops_ro' rfl (ro_move rfl) rfl ?_
          refine ops_ro' rfl (ro_sliceLen Try.underlying30 rfl) rfl ?_
          refine ops_ro' rfl (ro_gtr rfl rfl rfl) rfl ?_
          refine ops_split rfl rfl rfl (fun hg94 => ?_) (fun hg94 => ?_)
          · replace hg94 := of_decide_eq_true hg94
            obtain ⟨rfl, rfl⟩ : zl = y ∧ ze = 0 := by simpa using hz2 (by omega)
            refine ops_ro' rfl (ro_move rfl) rfl ?_
            refine ops_ro' rfl (ro_neq rfl rfl (decide_eq_false (by omega))) rfl ?_
            refine ops_ro' rfl (ro_move (v := .bool false) rfl) rfl ?_
            refine ops_ro' rfl (ro_move rfl) rfl ?_
            refine ops_ro' rfl (ro_toStr Try.underlying30 Try.underlying5 Try.underlying9 rfl (Vw.pick 0 rfl Vw.row) rfl) rfl ?_
            refine ops_ro' rfl (ro_move rfl) rfl ?_
            refine ops_ro' rfl (ro_toStr Try.underlying30 Try.underlying5 Try.underlying9 rfl (Vw.pick 3 rfl hv10) rfl) rfl ?_
            refine ops_ro' rfl (ro_neqS rfl rfl (decide_eq_false (fun h => h rfl))) rfl ?_
            refine ops_ro' rfl (ro_pick rfl rfl) rfl ?_
            refine ops_ro' rfl (ro_pick rfl rfl) rfl ?_
            refine ops_ro' rfl (ro_move (v := .bool false) rfl) rfl ?_
            refine ops_ro' rfl (ro_move rfl) rfl ?_
            refine ops_eff' rfl (eff_callM (Pre := []) Try.call16 rfl rfl (Split.nil _) (tri_arg (by rw [ht2, htb3]) (bytes_spec (by first | exact Tv.pick 0 rfl (tree_tv t2) | exact Tv.pick 1 rfl (tree_tv t2) | exact Tv.pick 2 rfl (tree_tv t2) | exact Tv.pick 3 rfl (tree_tv t2) | exact Tv.pick 4 rfl (tree_tv t2))))) rfl ?_
            rintro _ H' ⟨_, ⟨rfl, rfl⟩, hH⟩
            simp only [List.cons_append, List.nil_append, List.eraseIdx_cons_zero, List.eraseIdx_cons_succ, List.set_cons_zero, List.set_cons_succ] at hH
            subst hH
            rw [hF2.by']
            refine ops_ro' rfl (ro_move rfl) rfl ?_
            refine ops_ro' rfl (ro_sliceLen Try.underlying30 rfl) rfl ?_
            refine ops_ro' rfl (ro_neq rfl rfl (decide_eq_false (by omega))) rfl ?_
            refine ops_ro' rfl (ro_pick rfl rfl) rfl ?_
            refine ops_nil ?_
            refine Then_normal ?_
            refine wp_condF rfl ?_
            refine wp_skip' ?_
            refine InBlock_normal ?_
            refine Then_normal ?_
            refine wp_region' ?_
            refine ops_ro' rfl (ro_move rfl) rfl ?_
            refine ops_ro' rfl (ro_add rfl rfl (wrap_inc (by omega))) rfl ?_
            refine ops_ro' rfl (ro_assign rfl) rfl ?_
            refine ops_nil ?_
            refine Then_normal ?_
            refine back (m - 1) (by omega) (kept ⟨i + 1, t2, p9, c9, _, ⟨by omega, by rw [ht2, htb3], hF2⟩, rfl, rfl⟩ ?_ ?_ ?_)
            · exact (by repeat (first | exact Has.nil _ | refine Has.cons rfl ?_))
            · exact (by repeat (first | exact Has.nil _ | refine Has.cons rfl ?_))
            · exact (SubH.cons 1 rfl (SubH.cons 1 rfl (SubH.cons 1 rfl (SubH.nil _))))
          · replace hg94 := of_decide_eq_false hg94
            refine ops_skip' rfl rfl ?_
            refine ops_skip' rfl rfl ?_
            refine ops_skip' rfl rfl ?_
            refine ops_skip' rfl rfl ?_
            refine ops_skip' rfl rfl ?_
            refine ops_skip' rfl rfl ?_
            refine ops_skip' rfl rfl ?_
            refine ops_skip' rfl rfl ?_
            refine ops_skip' rfl rfl ?_
            refine ops_ro' rfl (ro_pick rfl rfl) rfl ?_
            refine ops_ro' rfl (ro_move (v := .bool false) rfl) rfl ?_
            refine ops_ro' rfl (ro_move rfl) rfl ?_
            refine ops_eff' rfl (eff_callM (Pre := []) Try.call16 rfl rfl (Split.nil _) (tri_arg (by rw [ht2, htb3]) (bytes_spec (by first | exact Tv.pick 0 rfl (tree_tv t2) | exact Tv.pick 1 rfl (tree_tv t2) | exact Tv.pick 2 rfl (tree_tv t2) | exact Tv.pick 3 rfl (tree_tv t2) | exact Tv.pick 4 rfl (tree_tv t2))))) rfl ?_
            rintro _ H' ⟨_, ⟨rfl, rfl⟩, hH⟩
            simp only [List.cons_append, List.nil_append, List.eraseIdx_cons_zero, List.eraseIdx_cons_succ, List.set_cons_zero, List.set_cons_succ] at hH
            subst hH
            rw [hF2.by']
            refine ops_ro' rfl (ro_move rfl) rfl ?_
            refine ops_ro' rfl (ro_sliceLen Try.underlying30 rfl) rfl ?_
            refine ops_ro' rfl (ro_neq rfl rfl (decide_eq_false (by omega))) rfl ?_
            refine ops_ro' rfl (ro_pick rfl rfl) rfl ?_
            refine ops_nil ?_
            refine Then_normal ?_
            refine wp_condF rfl ?_
            refine wp_skip' ?_
            refine InBlock_normal ?_
            refine Then_normal ?_
            refine wp_region' ?_
            refine ops_ro' rfl (ro_move rfl) rfl ?_
            refine ops_ro' rfl (ro_add rfl rfl (wrap_inc (by omega))) rfl ?_
            refine ops_ro' rfl (ro_assign rfl) rfl ?_
            refine ops_nil ?_
            refine Then_normal ?_
            refine back (m - 1) (by omega) (kept ⟨i + 1, t2, p9, c9, _, ⟨by omega, by rw [ht2, htb3], hF2⟩, rfl, rfl⟩ ?_ ?_ ?_)
            · exact (by repeat (first | exact Has.nil _ | refine Has.cons rfl ?_))
            · exact (by repeat (first | exact Has.nil _ | refine Has.cons rfl ?_))
            · exact (SubH.cons 1 rfl (SubH.cons 1 rfl (SubH.cons 1 rfl (SubH.nil _))))
      · replace hc42 := of_decide_eq_false hc42
        refine wp_exit' ?_
        refine Then_exit ?_
        refine Then_exit ?_
        refine InBlock_here ?_
        refine Then_normal ?_
        refine wp_seq' ?_
        refine wp_region' ?_
        refine ops_ro' rfl (ro_move rfl) rfl ?_
        refine ops_ro' rfl (ro_move rfl) rfl ?_
        refine ops_eff' rfl (eff_callM (Pre := []) Try.call15 rfl rfl (Split.nil _) (tri_arg htb3 (read_spec (by first | exact Tv.pick 0 rfl (tree_tv t) | exact Tv.pick 1 rfl (tree_tv t) | exact Tv.pick 2 rfl (tree_tv t) | exact Tv.pick 3 rfl (tree_tv t) | exact Tv.pick 4 rfl (tree_tv t)) 1 0 (by decide) 65536 (by decide) (f1_dl hF)))) rfl ?_
        rintro _ H' ⟨_, ⟨p115, c115, rfl, rfl⟩, hH⟩
        simp only [List.cons_append, List.nil_append, List.eraseIdx_cons_zero, List.eraseIdx_cons_succ, List.set_cons_zero, List.set_cons_succ] at hH
        subst hH
        rw [f1_read hF, f1_all hF.le]
        dsimp only
        obtain ⟨e5, he5⟩ : ∃ e : Int, e = (if w.length ≤ 0 then 10 else 0) := ⟨_, rfl⟩
        rw [← he5]
        have hbe : decide (e5 = 0) = decide (((0 : Nat) : Int) < ((w.length : Nat) : Int)) := by
          rw [he5]; split <;> exact decide_eq_decide.2 (by omega)
        refine ops_ro' rfl (ro_move rfl) rfl ?_
        refine ops_ro' rfl (ro_extract rfl rfl) rfl ?_
        refine ops_ro' rfl (ro_extract rfl rfl) rfl ?_
        refine ops_ro' rfl (ro_assign rfl) rfl ?_
        refine ops_ro' rfl (ro_assign rfl) rfl ?_
        refine ops_nil ?_
        refine Then_normal ?_
        refine wp_cutK 1024 (fun Δ LL => ∃ (b16 : Nat) (at6 : At), (at6.s = w.length) ∧ Δ = [(16, .pointer (some ⟨b16, 0, none⟩)), (17, .int .i64 0)] ∧ LL = [own b16 (.cells at6.cs.toArray 40 (0, 0)), row 5 1 (.slice p115 w.length c115) w.length (cel w), row 5 1 (.slice p8 w.length c8) w.length (cel w), tree t, V]) (Has.cons (k := 8) rfl (Has.cons (k := 14) rfl (Has.cons (k := 15) rfl (Has.nil _)))) ?_ ?_
        · refine wp_region' ?_
          refine ops_ro' rfl (ro_move rfl) rfl ?_
          refine ops_ro' rfl (ro_move rfl) rfl ?_
          refine ops_eff' rfl (eff_callM (Pre := []) Try.call17 rfl rfl (Split.nil _) (tri_arg htb3 (attrs_spec (by first | exact Tv.pick 0 rfl (tree_tv t) | exact Tv.pick 1 rfl (tree_tv t) | exact Tv.pick 2 rfl (tree_tv t) | exact Tv.pick 3 rfl (tree_tv t) | exact Tv.pick 4 rfl (tree_tv t)) 1 (f1_dl hF)))) rfl ?_
          rintro _ H' ⟨_, ⟨rfl, rfl⟩, hH⟩
          simp only [List.cons_append, List.nil_append, List.eraseIdx_cons_zero, List.eraseIdx_cons_succ, List.set_cons_zero, List.set_cons_succ] at hH
          subst hH
          obtain ⟨at6, ha6, hs6⟩ := f1_atts hF
          rw [ha6]
          dsimp only
          refine ops_ro' rfl (ro_move rfl) rfl ?_
          refine ops_ro' rfl (ro_extract rfl rfl) rfl ?_
          refine ops_ro' rfl (ro_extract rfl rfl) rfl ?_
          refine ops_eff' rfl (eff_alloc z40) rfl ?_
          rintro _ _ ⟨b16, rfl, rfl⟩
          refine ops_eff0 rfl (eff_storeA 0 ag40 rfl rfl rfl rfl rfl (Nat.le_of_ble_eq_true rfl) (warm_zero _)) rfl ?_
          rintro _ _ rfl
          simp only [List.set_cons_zero, List.set_cons_succ]
          refine ops_ro' rfl (ro_assign rfl) rfl ?_
          refine ops_nil ?_
          refine Then_normal ?_
          refine over_cut (kept ⟨b16, at6, hs6, rfl, rfl⟩ ?_ ?_ ?_)
          · exact (by repeat (first | exact Has.nil _ | refine Has.cons rfl ?_))
          · exact (by repeat (first | exact Has.nil _ | refine Has.cons rfl ?_))
          · exact SubH.refl _
        · rintro Δ LL ⟨b16, at6, hs6, rfl, rfl⟩
          simp only [List.cons_append, List.nil_append]
          refine wp_seq' ?_
          have hw7 := hF.le
          refine wp_region' ?_
          refine ops_ro' rfl (ro_move rfl) rfl ?_
          refine ops_ro' rfl (ro_toStr Try.underlying30 Try.underlying5 Try.underlying9 rfl (Vw.pick 1 rfl Vw.row) rfl) rfl ?_
          refine ops_ro' rfl (ro_move rfl) rfl ?_
          refine ops_ro' rfl (ro_toStr Try.underlying30 Try.underlying5 Try.underlying9 rfl (Vw.pick 2 rfl Vw.row) rfl) rfl ?_
          refine ops_ro' rfl (ro_eqlS rfl rfl (decide_eq_true rfl)) rfl ?_
          refine ops_ro' rfl (ro_move (v := .bool true) rfl) rfl ?_
          refine ops_ro' rfl (ro_move rfl) rfl ?_
          refine ops_ro' rfl (ro_eql rfl rfl rfl) rfl ?_
          refine ops_ro' rfl (ro_move rfl) rfl ?_
          refine ops_ro' rfl (ro_sliceLen Try.underlying30 rfl) rfl ?_
          refine ops_ro' rfl (ro_gtr rfl rfl rfl) rfl ?_
          refine ops_ro' rfl (ro_eql_bool Try.underlying4 rfl rfl (c := true) (by first | (rw [hbe]; simp; done) | (simp [hbe]; done))) rfl ?_
          refine ops_ro' rfl (ro_pick rfl rfl) rfl ?_
          refine ops_ro' rfl (ro_move (v := .bool true) rfl) rfl ?_
          refine ops_ro' rfl (ro_move rfl) rfl ?_
          refine ops_ro' rfl (ro_eql rfl rfl (decide_eq_true (by omega))) rfl ?_
          refine ops_ro' rfl (ro_pick rfl rfl) rfl ?_
          refine ops_ro' rfl (ro_move (v := .bool true) rfl) rfl ?_
          refine ops_ro' rfl (ro_fieldAddr fa40_1 rfl) rfl ?_
          refine ops_ro' rfl (ro_load sc34 rfl (Rd.pick 0 rfl (Rd.own rfl))) rfl ?_
          refine ops_ro' rfl (ro_move rfl) rfl ?_
          refine ops_ro' rfl (ro_sliceLen Try.underlying30 rfl) rfl ?_
          refine ops_ro' rfl (ro_conv Try.underlying3 Try.underlying34 rfl (wrap_u64_in (by omega) (by omega))) rfl ?_
          refine ops_ro' rfl (ro_eql rfl rfl (decide_eq_true (by omega))) rfl ?_
          refine ops_ro' rfl (ro_pick rfl rfl) rfl ?_
          refine ops_ro' rfl (ro_move (v := .bool true) rfl) rfl ?_
          refine ops_eff' rfl (eff_call Try.call18 rfl rfl (by repeat (first | exact Split.nil _ | apply Split.cons 0 rfl | apply Split.cons 1 rfl | apply Split.cons 2 rfl | apply Split.cons 3 rfl | apply Split.cons 4 rfl | apply Split.cons 5 rfl | apply Split.cons 6 rfl | apply Split.cons 7 rfl | apply Split.cons 8 rfl | apply Split.cons 9 rfl | apply Split.cons 10 rfl | apply Split.cons 11 rfl)) (known15_spec)) rfl ?_
          rintro _ H' ⟨_, ⟨rfl, rfl⟩, hH⟩
          simp only [List.cons_append, List.nil_append, List.eraseIdx_cons_zero, List.eraseIdx_cons_succ, List.set_cons_zero, List.set_cons_succ] at hH
          subst hH
          refine ops_ro' rfl (ro_pick rfl rfl) rfl ?_
          refine ops_ro' rfl (ro_assign rfl) rfl ?_
          refine ops_nil ?_
          refine Then_normal ?_
          refine wp_ret' ?_
          refine' doneS_ret (res1 rfl rfl) ?_ ?_
          rotate_left 1
          exact ⟨rfl, rfl⟩
          exact (SubH.cons 4 rfl (SubH.nil _))
    · replace hg39 := of_decide_eq_false hg39
      refine ops_skip' rfl rfl ?_
      refine ops_skip' rfl rfl ?_
      refine ops_ro' rfl (ro_pick rfl rfl) rfl ?_
      refine ops_nil ?_
      refine Then_normal ?_
      refine wp_condF rfl ?_
      refine wp_exit' ?_
      refine Then_exit ?_
      refine Then_exit ?_
      refine InBlock_here ?_
      refine Then_normal ?_
      refine wp_seq' ?_
      refine wp_region' ?_
      refine ops_ro' rfl (ro_move rfl) rfl ?_
      refine ops_ro' rfl (ro_move rfl) rfl ?_
      refine ops_eff' rfl (eff_callM (Pre := []) Try.call15 rfl rfl (Split.nil _) (tri_arg htb3 (read_spec (by first | exact Tv.pick 0 rfl (tree_tv t) | exact Tv.pick 1 rfl (tree_tv t) | exact Tv.pick 2 rfl (tree_tv t) | exact Tv.pick 3 rfl (tree_tv t) | exact Tv.pick 4 rfl (tree_tv t)) 1 0 (by decide) 65536 (by decide) (f1_dl hF)))) rfl ?_
      rintro _ H' ⟨_, ⟨p115, c115, rfl, rfl⟩, hH⟩
      simp only [List.cons_append, List.nil_append, List.eraseIdx_cons_zero, List.eraseIdx_cons_succ, List.set_cons_zero, List.set_cons_succ] at hH
      subst hH
      rw [f1_read hF, f1_all hF.le]
      dsimp only
      obtain ⟨e5, he5⟩ : ∃ e : Int, e = (if w.length ≤ 0 then 10 else 0) := ⟨_, rfl⟩
      rw [← he5]
      have hbe : decide (e5 = 0) = decide (((0 : Nat) : Int) < ((w.length : Nat) : Int)) := by
        rw [he5]; split <;> exact decide_eq_decide.2 (by omega)
      refine ops_ro' rfl (ro_move rfl) rfl ?_
      refine ops_ro' rfl (ro_extract rfl rfl) rfl ?_
      refine ops_ro' rfl (ro_extract rfl rfl) rfl ?_
      refine ops_ro' rfl (ro_assign rfl) rfl ?_
      refine ops_ro' rfl (ro_assign rfl) rfl ?_
      refine ops_nil ?_
      refine Then_normal ?_
      refine wp_cutK 1024 (fun Δ LL => ∃ (b16 : Nat) (at6 : At), (at6.s = w.length) ∧ Δ = [(16, .pointer (some ⟨b16, 0, none⟩)), (17, .int .i64 0)] ∧ LL = [own b16 (.cells at6.cs.toArray 40 (0, 0)), row 5 1 (.slice p115 w.length c115) w.length (cel w), row 5 1 (.slice p8 w.length c8) w.length (cel w), tree t, V]) (Has.cons (k := 8) rfl (Has.cons (k := 14) rfl (Has.cons (k := 15) rfl (Has.nil _)))) ?_ ?_
      · refine wp_region' ?_
        refine ops_ro' rfl (ro_move rfl) rfl ?_
        refine ops_ro' rfl (ro_move rfl) rfl ?_
        refine ops_eff' rfl (eff_callM (Pre := []) Try.call17 rfl rfl (Split.nil _) (tri_arg htb3 (attrs_spec (by first | exact Tv.pick 0 rfl (tree_tv t) | exact Tv.pick 1 rfl (tree_tv t) | exact Tv.pick 2 rfl (tree_tv t) | exact Tv.pick 3 rfl (tree_tv t) | exact Tv.pick 4 rfl (tree_tv t)) 1 (f1_dl hF)))) rfl ?_
        rintro _ H' ⟨_, ⟨rfl, rfl⟩, hH⟩
        simp only [List.cons_append, List.nil_append, List.eraseIdx_cons_zero, List.eraseIdx_cons_succ, List.set_cons_zero, List.set_cons_succ] at hH
        subst hH
        obtain ⟨at6, ha6, hs6⟩ := f1_atts hF
        rw [ha6]
        dsimp only
        refine ops_ro' rfl (ro_move rfl) rfl ?_
        refine ops_ro' rfl (ro_extract rfl rfl) rfl ?_
        refine ops_ro' rfl (ro_extract rfl rfl) rfl ?_
        refine ops_eff' rfl (eff_alloc z40) rfl ?_
        rintro _ _ ⟨b16, rfl, rfl⟩
        refine ops_eff0 rfl (eff_storeA 0 ag40 rfl rfl rfl rfl rfl (Nat.le_of_ble_eq_true rfl) (warm_zero _)) rfl ?_
        rintro _ _ rfl
        simp only [List.set_cons_zero, List.set_cons_succ]
        refine ops_ro' rfl (ro_assign rfl) rfl ?_
        refine ops_nil ?_
        refine Then_normal ?_
        refine over_cut (kept ⟨b16, at6, hs6, rfl, rfl⟩ ?_ ?_ ?_)
        · exact (by repeat (first | exact Has.nil _ | refine Has.cons rfl ?_))
        · exact (by repeat (first | exact Has.nil _ | refine Has.cons rfl ?_))
        · exact SubH.refl _
      · rintro Δ LL ⟨b16, at6, hs6, rfl, rfl⟩
        simp only [List.cons_append, List.nil_append]
        refine wp_seq' ?_
        have hw7 := hF.le
        refine wp_region' ?_
        refine ops_ro' rfl (ro_move rfl) rfl ?_
        refine ops_ro' rfl (ro_toStr Try.underlying30 Try.underlying5 Try.underlying9 rfl (Vw.pick 1 rfl Vw.row) rfl) rfl ?_
        refine ops_ro' rfl (ro_move rfl) rfl ?_
        refine ops_ro' rfl (ro_toStr Try.underlying30 Try.underlying5 Try.underlying9 rfl (Vw.pick 2 rfl Vw.row) rfl) rfl ?_
        refine ops_ro' rfl (ro_eqlS rfl rfl (decide_eq_true rfl)) rfl ?_
        refine ops_ro' rfl (ro_move (v := .bool true) rfl) rfl ?_
        refine ops_ro' rfl (ro_move rfl) rfl ?_
        refine ops_ro' rfl (ro_eql rfl rfl rfl) rfl ?_
        refine ops_ro' rfl (ro_move rfl) rfl ?_
        refine ops_ro' rfl (ro_sliceLen Try.underlying30 rfl) rfl ?_
        refine ops_ro' rfl (ro_gtr rfl rfl rfl) rfl ?_
        refine ops_ro' rfl (ro_eql_bool Try.underlying4 rfl rfl (c := true) (by first | (rw [hbe]; simp; done) | (simp [hbe]; done))) rfl ?_
        refine ops_ro' rfl (ro_pick rfl rfl) rfl ?_
        refine ops_ro' rfl (ro_move (v := .bool true) rfl) rfl ?_
        refine ops_ro' rfl (ro_move rfl) rfl ?_
        refine ops_ro' rfl (ro_eql rfl rfl (decide_eq_true (by omega))) rfl ?_
        refine ops_ro' rfl (ro_pick rfl rfl) rfl ?_
        refine ops_ro' rfl (ro_move (v := .bool true) rfl) rfl ?_
        refine ops_ro' rfl (ro_fieldAddr fa40_1 rfl) rfl ?_
        refine ops_ro' rfl (ro_load sc34 rfl (Rd.pick 0 rfl (Rd.own rfl))) rfl ?_
        refine ops_ro' rfl (ro_move rfl) rfl ?_
        refine ops_ro' rfl (ro_sliceLen Try.underlying30 rfl) rfl ?_
        refine ops_ro' rfl (ro_conv Try.underlying3 Try.underlying34 rfl (wrap_u64_in (by omega) (by omega))) rfl ?_
        refine ops_ro' rfl (ro_eql rfl rfl (decide_eq_true (by omega))) rfl ?_
        refine ops_ro' rfl (ro_pick rfl rfl) rfl ?_
        refine ops_ro' rfl (ro_move (v := .bool true) rfl) rfl ?_
        refine ops_eff' rfl (eff_call Try.call18 rfl rfl (by repeat (first | exact Split.nil _ | apply Split.cons 0 rfl | apply Split.cons 1 rfl | apply Split.cons 2 rfl | apply Split.cons 3 rfl | apply Split.cons 4 rfl | apply Split.cons 5 rfl | apply Split.cons 6 rfl | apply Split.cons 7 rfl | apply Split.cons 8 rfl | apply Split.cons 9 rfl | apply Split.cons 10 rfl | apply Split.cons 11 rfl)) (known15_spec)) rfl ?_
        rintro _ H' ⟨_, ⟨rfl, rfl⟩, hH⟩
        simp only [List.cons_append, List.nil_append, List.eraseIdx_cons_zero, List.eraseIdx_cons_succ, List.set_cons_zero, List.set_cons_succ] at hH
        subst hH
        refine ops_ro' rfl (ro_pick rfl rfl) rfl ?_
        refine ops_ro' rfl (ro_assign rfl) rfl ?_
        refine ops_nil ?_
        refine Then_normal ?_
        refine wp_ret' ?_
        refine' doneS_ret (res1 rfl rfl) ?_ ?_
        rotate_left 1
        exact ⟨rfl, rfl⟩
        exact (SubH.cons 4 rfl (SubH.nil _))
  · replace hg33 := of_decide_eq_false hg33
    refine ops_skip' rfl rfl ?_
    refine ops_skip' rfl rfl ?_
    refine ops_skip' rfl rfl ?_
    refine ops_skip' rfl rfl ?_
    refine ops_ro' rfl (ro_pick rfl rfl) rfl ?_
    refine ops_ro' rfl (ro_move (v := .bool false) rfl) rfl ?_
    refine ops_skip' rfl rfl ?_
    refine ops_skip' rfl rfl ?_
    refine ops_ro' rfl (ro_pick rfl rfl) rfl ?_
    refine ops_nil ?_
    refine Then_normal ?_
    refine wp_condF rfl ?_
    refine wp_exit' ?_
    refine Then_exit ?_
    refine Then_exit ?_
    refine InBlock_here ?_
    refine Then_normal ?_
    refine wp_seq' ?_
    refine wp_region' ?_
    refine ops_ro' rfl (ro_move rfl) rfl ?_
    refine ops_ro' rfl (ro_move rfl) rfl ?_
    refine ops_eff' rfl (eff_callM (Pre := []) Try.call15 rfl rfl (Split.nil _) (tri_arg htb3 (read_spec (by first | exact Tv.pick 0 rfl (tree_tv t) | exact Tv.pick 1 rfl (tree_tv t) | exact Tv.pick 2 rfl (tree_tv t) | exact Tv.pick 3 rfl (tree_tv t) | exact Tv.pick 4 rfl (tree_tv t)) 1 0 (by decide) 65536 (by decide) (f1_dl hF)))) rfl ?_
    rintro _ H' ⟨_, ⟨p115, c115, rfl, rfl⟩, hH⟩
    simp only [List.cons_append, List.nil_append, List.eraseIdx_cons_zero, List.eraseIdx_cons_succ, List.set_cons_zero, List.set_cons_succ] at hH
    subst hH
    rw [f1_read hF, f1_all hF.le]
    dsimp only
    obtain ⟨e5, he5⟩ : ∃ e : Int, e = (if w.length ≤ 0 then 10 else 0) := ⟨_, rfl⟩
    rw [← he5]
    have hbe : decide (e5 = 0) = decide (((0 : Nat) : Int) < ((w.length : Nat) : Int)) := by
      rw [he5]; split <;> exact decide_eq_decide.2 (by omega)
    refine ops_ro' rfl (ro_move rfl) rfl ?_
    refine ops_ro' rfl (ro_extract rfl rfl) rfl ?_
    refine ops_ro' rfl (ro_extract rfl rfl) rfl ?_
    refine ops_ro' rfl (ro_assign rfl) rfl ?_
    refine ops_ro' rfl (ro_assign rfl) rfl ?_
    refine ops_nil ?_
    refine Then_normal ?_
    refine wp_cutK 1024 (fun Δ LL => ∃ (b16 : Nat) (at6 : At), (at6.s = w.length) ∧ Δ = [(16, .pointer (some ⟨b16, 0, none⟩)), (17, .int .i64 0)] ∧ LL = [own b16 (.cells at6.cs.toArray 40 (0, 0)), row 5 1 (.slice p115 w.length c115) w.length (cel w), row 5 1 (.slice p8 w.length c8) w.length (cel w), tree t, V]) (Has.cons (k := 8) rfl (Has.cons (k := 14) rfl (Has.cons (k := 15) rfl (Has.nil _)))) ?_ ?_
    · refine wp_region' ?_
      refine ops_ro' rfl (ro_move rfl) rfl ?_
      refine ops_ro' rfl (ro_move rfl) rfl ?_
      refine ops_eff' rfl (eff_callM (Pre := []) Try.call17 rfl rfl (Split.nil _) (tri_arg htb3 (attrs_spec (by first | exact Tv.pick 0 rfl (tree_tv t) | exact Tv.pick 1 rfl (tree_tv t) | exact Tv.pick 2 rfl (tree_tv t) | exact Tv.pick 3 rfl (tree_tv t) | exact Tv.pick 4 rfl (tree_tv t)) 1 (f1_dl hF)))) rfl ?_
      rintro _ H' ⟨_, ⟨rfl, rfl⟩, hH⟩
      simp only [List.cons_append, List.nil_append, List.eraseIdx_cons_zero, List.eraseIdx_cons_succ, List.set_cons_zero, List.set_cons_succ] at hH
      subst hH
      obtain ⟨at6, ha6, hs6⟩ := f1_atts hF
      rw [ha6]
      dsimp only
      refine ops_ro' rfl (ro_move rfl) rfl ?_
      refine ops_ro' rfl (ro_extract rfl rfl) rfl ?_
      refine ops_ro' rfl (ro_extract rfl rfl) rfl ?_
      refine ops_eff' rfl (eff_alloc z40) rfl ?_
      rintro _ _ ⟨b16, rfl, rfl⟩
      refine ops_eff0 rfl (eff_storeA 0 ag40 rfl rfl rfl rfl rfl (Nat.le_of_ble_eq_true rfl) (warm_zero _)) rfl ?_
      rintro _ _ rfl
      simp only [List.set_cons_zero, List.set_cons_succ]
      refine ops_ro' rfl (ro_assign rfl) rfl ?_
      refine ops_nil ?_
      refine Then_normal ?_
      refine over_cut (kept ⟨b16, at6, hs6, rfl, rfl⟩ ?_ ?_ ?_)
      · exact (by repeat (first | exact Has.nil _ | refine Has.cons rfl ?_))
      · exact (by repeat (first | exact Has.nil _ | refine Has.cons rfl ?_))
      · exact SubH.refl _
    · rintro Δ LL ⟨b16, at6, hs6, rfl, rfl⟩
      simp only [List.cons_append, List.nil_append]
      refine wp_seq' ?_
      have hw7 := hF.le
      refine wp_region' ?_
      refine ops_ro' rfl (ro_move rfl) rfl ?_
      refine ops_ro' rfl (ro_toStr Try.underlying30 Try.underlying5 Try.underlying9 rfl (Vw.pick 1 rfl Vw.row) rfl) rfl ?_
      refine ops_ro' rfl (ro_move rfl) rfl ?_
      refine ops_ro' rfl (ro_toStr Try.underlying30 Try.underlying5 Try.underlying9 rfl (Vw.pick 2 rfl Vw.row) rfl) rfl ?_
      refine ops_ro' rfl (ro_eqlS rfl rfl (decide_eq_true rfl)) rfl ?_
      refine ops_ro' rfl (ro_move (v := .bool true) rfl) rfl ?_
      refine ops_ro' rfl (ro_move rfl) rfl ?_
      refine ops_ro' rfl (ro_eql rfl rfl rfl) rfl ?_
      refine ops_ro' rfl (ro_move rfl) rfl ?_
      refine ops_ro' rfl (ro_sliceLen Try.underlying30 rfl) rfl ?_
      refine ops_ro' rfl (ro_gtr rfl rfl rfl) rfl ?_
      refine ops_ro' rfl (ro_eql_bool Try.underlying4 rfl rfl (c := true) (by first | (rw [hbe]; simp; done) | (simp [hbe]; done))) rfl ?_
      refine ops_ro' rfl (ro_pick rfl rfl) rfl ?_
      refine ops_ro' rfl (ro_move (v := .bool true) rfl) rfl ?_
      refine ops_ro' rfl (ro_move rfl) rfl ?_
      refine ops_ro' rfl (ro_eql rfl rfl (decide_eq_true (by omega))) rfl ?_
      refine ops_ro' rfl (ro_pick rfl rfl) rfl ?_
      refine ops_ro' rfl (ro_move (v := .bool true) rfl) rfl ?_
      refine ops_ro' rfl (ro_fieldAddr fa40_1 rfl) rfl ?_
      refine ops_ro' rfl (ro_load sc34 rfl (Rd.pick 0 rfl (Rd.own rfl))) rfl ?_
      refine ops_ro' rfl (ro_move rfl) rfl ?_
      refine ops_ro' rfl (ro_sliceLen Try.underlying30 rfl) rfl ?_
      refine ops_ro' rfl (ro_conv Try.underlying3 Try.underlying34 rfl (wrap_u64_in (by omega) (by omega))) rfl ?_
      refine ops_ro' rfl (ro_eql rfl rfl (decide_eq_true (by omega))) rfl ?_
      refine ops_ro' rfl (ro_pick rfl rfl) rfl ?_
      refine ops_ro' rfl (ro_move (v := .bool true) rfl) rfl ?_
      refine ops_eff' rfl (eff_call Try.call18 rfl rfl (by repeat (first | exact Split.nil _ | apply Split.cons 0 rfl | apply Split.cons 1 rfl | apply Split.cons 2 rfl | apply Split.cons 3 rfl | apply Split.cons 4 rfl | apply Split.cons 5 rfl | apply Split.cons 6 rfl | apply Split.cons 7 rfl | apply Split.cons 8 rfl | apply Split.cons 9 rfl | apply Split.cons 10 rfl | apply Split.cons 11 rfl)) (known15_spec)) rfl ?_
      rintro _ H' ⟨_, ⟨rfl, rfl⟩, hH⟩
      simp only [List.cons_append, List.nil_append, List.eraseIdx_cons_zero, List.eraseIdx_cons_succ, List.set_cons_zero, List.set_cons_succ] at hH
      subst hH
      refine ops_ro' rfl (ro_pick rfl rfl) rfl ?_
      refine ops_ro' rfl (ro_assign rfl) rfl ?_
      refine ops_nil ?_
      refine Then_normal ?_
      refine wp_ret' ?_
      refine' doneS_ret (res1 rfl rfl) ?_ ?_
      rotate_left 1
      exact ⟨rfl, rfl⟩
      exact (SubH.cons 4 rfl (SubH.nil _))

end Go.Proofs.Ytbbmhppkhcodfaa
