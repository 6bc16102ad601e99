/-
  The walk of WireBack.
-/
import Derived.Test.YtbiohhfibkolgaaDoorBackP
namespace Go.Proofs.YtbiohhfibkolgaaDoor
open Go.Sx
set_option linter.unusedVariables false
set_option linter.unusedSimpArgs false
set_option maxRecDepth 100000
set_option maxHeartbeats 4000000

theorem bare_drop {y : List UInt8} (h0 : 0 < y.length) (hz : y[0] = 0) : bare y = bare (y.drop 1) := by
  cases y with
  | nil => exact absurd h0 (by simp)
  | cons d r => have hz : d = 0 := hz; subst hz; exact bare_zero r
theorem bare_stop0 {y : List UInt8} (h0 : 0 < y.length) (hz : y[0] ≠ 0) : bare y = y := by
  cases y with
  | nil => rfl
  | cons d r => exact bare_stop r hz
theorem bare_nil0 {y : List UInt8} (h : y.length = 0) : bare y = y := by rw [List.eq_nil_of_length_eq_zero h]; rfl
theorem here_fin {q : R} (h : Here q []) : q.fin = ((0 : Int), (0 : Int)) := by
  have h1 := h.len
  rw [List.length_nil] at h1
  unfold R.fin; rw [if_pos h.why, if_neg (by omega)]
theorem bool_in (b : Bool) : decide ((((if b = true then 1 else 0 : Nat)) : Int) ≠ 0) = b := by cases b <;> rfl
theorem tri_K {f : FuncId} {args : List Value} {V : HProp} {pw : Nat} {p : Option Addr} {c : Nat} {a a2 : List UInt8} (h : Tri Tryd.prog f args (wr pw p c a ++ [V]) (fun v H' => ∃ p' c', v = .tuple #[] ∧ H' = wr pw p' c' a2 ++ [V])) :
    Tri Tryd.prog f args (wr pw p c a ++ [V]) (fun v H' => ∃ K, (∃ p' c', v = .tuple #[] ∧ K = wr pw p' c' a2) ∧ H' = K ++ [V]) := tri_post h fun v H' ⟨p', c', h1, h2⟩ => ⟨_, ⟨p', c', h1, rfl⟩, h2⟩
theorem wback_run (V : HProp) (hM : Ml V) (q : Option Addr) (cq : Nat) (l : List Pt) (hL : Vw V (.slice q l.length cq) l.length (flat Pt.cs l)) (hP : ∀ x ∈ l, x.Ok V) :
    Tri Tryd.prog 4 [.slice q l.length cq] [V] (fun v H' => v = .bool true ∧ H' = [V]) := by
  refine tri_of_wpS Tryd.func4 rfl Tryd.ntmps4 (by simp) ?_
  refine wp_seq' ?_
  refine wp_region' ?_
  refine ops_ro' rfl (ro_assign rfl) rfl ?_
  refine ops_nil ?_
  refine Then_normal ?_
  refine wp_seq' ?_
  refine wp_region' ?_
  refine ops_eff' rfl (eff_call Tryd.call9 rfl rfl (by repeat (first | exact Split.nil _ | apply Split.cons 0 rfl | apply Split.cons 1 rfl | apply Split.cons 2 rfl | apply Split.cons 3 rfl | apply Split.cons 4 rfl | apply Split.cons 5 rfl | apply Split.cons 6 rfl | apply Split.cons 7 rfl | apply Split.cons 8 rfl | apply Split.cons 9 rfl | apply Split.cons 10 rfl | apply Split.cons 11 rfl)) (newWriter_spec)) rfl ?_
  rintro _ H' ⟨_, ⟨pw, rfl, rfl⟩, hH⟩
  simp only [List.cons_append, List.nil_append, List.eraseIdx_cons_zero, List.eraseIdx_cons_succ, List.set_cons_zero, List.set_cons_succ] at hH
  subst hH
  refine ops_ro' rfl (ro_assign rfl) rfl ?_
  refine ops_nil ?_
  refine Then_normal ?_
  refine wp_seq' ?_
  refine wp_seq' ?_
  refine wp_region' ?_
  refine ops_ro' rfl (ro_move rfl) rfl ?_
  refine ops_ro' rfl (ro_ptrEqlNil Tryd.underlying23 rfl rfl rfl) rfl ?_
  refine ops_nil ?_
  refine Then_normal ?_
  refine wp_condF rfl ?_
  refine wp_skip' ?_
  refine Then_normal ?_
  refine wp_seq' ?_
  refine wp_seq' ?_
  refine wp_region' ?_
  refine ops_ro' rfl (ro_assign rfl) rfl ?_
  refine ops_nil ?_
  refine Then_normal ?_
  refine wp_block' ?_
  refine wp_loopK 5 (fun m Δ LL => ∃ (i : Nat) (pp : Option Addr) (cp : Nat) (a : List UInt8), (i + m = l.length ∧ i ≤ 20 ∧ a = encs l i) ∧ Δ = [(4, .int .i64 (i : Nat))] ∧ LL = wr pw pp cp a ++ [V]) (m := l.length) (Has.cons (k := 0) rfl (Has.cons (k := 3) rfl (Has.nil _))) (kept ⟨0, none, 0, [], ⟨by omega, by omega, (encs_zero l).symm⟩, rfl, rfl⟩ (by repeat (first | exact Has.nil _ | refine Has.cons rfl ?_)) (by repeat (first | exact Has.nil _ | refine Has.cons rfl ?_)) (by repeat (first | exact SubH.nil _ | refine SubH.cons 0 rfl ?_ | refine SubH.cons 1 rfl ?_ | refine SubH.cons 2 rfl ?_ | refine SubH.cons 3 rfl ?_ | refine SubH.cons 4 rfl ?_ | refine SubH.cons 5 rfl ?_ | refine SubH.cons 6 rfl ?_ | refine SubH.cons 7 rfl ?_ | refine SubH.cons 8 rfl ?_ | refine SubH.cons 9 rfl ?_ | refine SubH.cons 10 rfl ?_ | refine SubH.cons 11 rfl ?_ | refine SubH.cons 12 rfl ?_ | refine SubH.cons 13 rfl ?_ | refine SubH.rown ?_))) ?_
  rintro m Δ LL ⟨i, pp, cp, a, ⟨hm, hi20, ha⟩, rfl, rfl⟩
  simp only [List.cons_append, List.nil_append]
  refine wp_seq' ?_
  refine wp_seq' ?_
  refine wp_region' ?_
  refine ops_ro' rfl (ro_move rfl) rfl ?_
  refine ops_ro' rfl (ro_move rfl) rfl ?_
  refine ops_ro' rfl (ro_sliceLen Tryd.underlying37 rfl) rfl ?_
  refine ops_ro' rfl (ro_lss rfl rfl rfl) rfl ?_
  refine ops_split rfl rfl rfl (fun hg23 => ?_) (fun hg23 => ?_)
  · replace hg23 := of_decide_eq_true hg23
    refine ops_ro' rfl (ro_move rfl) rfl ?_
    refine ops_ro' rfl (ro_lss rfl rfl rfl) rfl ?_
    refine ops_ro' rfl (ro_pick rfl rfl) rfl ?_
    refine ops_nil ?_
    refine Then_normal ?_
    refine wp_cond' rfl (fun hc26 => ?_) (fun hc26 => ?_)
    · replace hc26 := of_decide_eq_true hc26
      refine wp_skip' ?_
      refine Then_normal ?_
      refine wp_seq' ?_
      refine wp_block' ?_
      refine wp_seq' ?_
      have hi : i < l.length := by omega
      have hok := hP l[i] (List.getElem_mem hi)
      have hla : a.length ≤ 40000 := by have := encs_len l i; rw [← ha] at this; omega
      refine wp_know (fun w F s => vw_ptr (Vw.pick (H := [_, _, V]) 2 rfl hL) s (by omega)) ?_
      rintro ⟨b1, o1, rfl⟩
      refine wp_region' ?_
      refine ops_ro' rfl (ro_move rfl) rfl ?_
      refine ops_ro' rfl (ro_move rfl) rfl ?_
      refine ops_ro' rfl (ro_indexSlice sl37 rfl rfl rfl (by omega)) rfl ?_
      refine ops_ro' rfl (ro_loadA ag40 rfl (RdN.of_pick 2 rfl ((RdN.elem (vw_rdn hL) Pt.len (List.getElem?_eq_getElem hi)))) rfl) rfl ?_
      refine ops_eff' rfl (eff_call Tryd.call16 rfl rfl (by repeat (first | exact Split.nil _ | apply Split.cons 0 rfl | apply Split.cons 1 rfl | apply Split.cons 2 rfl | apply Split.cons 3 rfl | apply Split.cons 4 rfl | apply Split.cons 5 rfl | apply Split.cons 6 rfl | apply Split.cons 7 rfl | apply Split.cons 8 rfl | apply Split.cons 9 rfl | apply Split.cons 10 rfl | apply Split.cons 11 rfl)) (short_spec V l[i].kind l[i].n l[i].s l[i].l l[i].p l[i].c hok.vw (by have := hok.cap; simp only [maxLen] at this; omega))) rfl ?_
      rintro _ H' ⟨_, ⟨_, ⟨p4, c4, rfl, rfl⟩, rfl⟩, hH⟩
      simp only [List.cons_append, List.nil_append, List.eraseIdx_cons_zero, List.eraseIdx_cons_succ, List.set_cons_zero, List.set_cons_succ] at hH
      subst hH
      have hx8 := few2_n l[i].l
      have hx66 := few2_66 (l[i].l.take 8)
      have hsl : (l[i].s.take 200).length ≤ 200 := by rw [List.length_take]; omega
      generalize hxs : few2 (l[i].l.take 8) 66 = xs at *
      generalize hss : l[i].s.take 200 = s at *
      have hn64 := hok.n
      refine ops_eff' rfl (eff_alloc z40) rfl ?_
      rintro _ _ ⟨b5, rfl, rfl⟩
      refine ops_eff0 rfl (eff_storeA 0 ag40 rfl rfl rfl rfl rfl (Nat.le_of_ble_eq_true rfl) (warm_zero _)) rfl ?_
      rintro _ _ rfl
      refine ops_nil ?_
      refine Then_normal ?_
      refine wp_seq' ?_
      refine wp_region' ?_
      refine ops_ro' rfl (ro_assign rfl) rfl ?_
      refine ops_nil ?_
      refine Then_normal ?_
      refine wp_seq' ?_
      refine wp_seq' ?_
      refine wp_region' ?_
      refine ops_ro' rfl (ro_assign rfl) rfl ?_
      refine ops_nil ?_
      refine Then_normal ?_
      refine wp_block' ?_
      refine wp_loopK 10 (fun m Δ LL => ∃ (j : Nat) (p6 : Option Addr) (c6 : Nat), (j + m = xs.length) ∧ Δ = [(6, .slice p6 (nms xs j).length c6), (7, .int .i64 (j : Nat))] ∧ LL = [row 9 1 (.slice p6 (nms xs j).length c6) (nms xs j).length (txs (nms xs j)), own b5 (.cells (Pt.cs ⟨l[i].kind, l[i].n, s, xs, p4, c4⟩).toArray 40 (0, 0)), row 9 1 (.slice p4 xs.length c4) xs.length (txs xs)] ++ wr pw pp cp a ++ [V]) (m := xs.length) (Has.cons (k := 0) rfl (Has.cons (k := 3) rfl (Has.cons (k := 4) rfl (Has.cons (k := 5) rfl (Has.nil _))))) (kept ⟨0, none, 0, by omega, rfl, rfl⟩ (by repeat (first | exact Has.nil _ | refine Has.cons rfl ?_)) (by repeat (first | exact Has.nil _ | refine Has.cons rfl ?_)) (by repeat (first | exact SubH.nil _ | refine SubH.cons 0 rfl ?_ | refine SubH.cons 1 rfl ?_ | refine SubH.cons 2 rfl ?_ | refine SubH.cons 3 rfl ?_ | refine SubH.cons 4 rfl ?_ | refine SubH.cons 5 rfl ?_ | refine SubH.cons 6 rfl ?_ | refine SubH.cons 7 rfl ?_ | refine SubH.cons 8 rfl ?_ | refine SubH.cons 9 rfl ?_ | refine SubH.cons 10 rfl ?_ | refine SubH.cons 11 rfl ?_ | refine SubH.cons 12 rfl ?_ | refine SubH.cons 13 rfl ?_ | refine SubH.rown ?_))) ?_
      rintro m2 Δ LL ⟨j, p6, c6, hmj, rfl, rfl⟩
      simp only [List.cons_append, List.nil_append]
      refine wp_seq' ?_
      refine wp_seq' ?_
      refine wp_region' ?_
      refine ops_ro' rfl (ro_move rfl) rfl ?_
      refine ops_ro' rfl (ro_fieldAddr fa40_3 rfl) rfl ?_
      refine ops_ro' rfl (ro_load sc30 rfl (Rd.pick 1 rfl (Rd.own rfl))) rfl ?_
      refine ops_ro' rfl (ro_sliceLen Tryd.underlying30 rfl) rfl ?_
      refine ops_ro' rfl (ro_lss rfl rfl rfl) rfl ?_
      refine ops_nil ?_
      refine Then_normal ?_
      refine wp_cond' rfl (fun hc38 => ?_) (fun hc38 => ?_)
      · replace hc38 := of_decide_eq_true hc38
        dsimp only at hc38
        have hj : j < xs.length := by omega
        have hxj := hx66 _ (List.getElem_mem hj)
        refine wp_know (fun w F s => row_ptr' 2 rfl s (by omega)) ?_
        rintro ⟨bx, rfl⟩
        refine wp_skip' ?_
        refine Then_normal ?_
        refine wp_seq' ?_
        refine wp_block' ?_
        refine wp_seq' ?_
        refine wp_region' ?_
        refine ops_ro' rfl (ro_fieldAddr fa40_3 rfl) rfl ?_
        refine ops_ro' rfl (ro_load sc30 rfl (Rd.pick 1 rfl (Rd.own rfl))) rfl ?_
        refine ops_ro' rfl (ro_move rfl) rfl ?_
        refine ops_ro' rfl (ro_indexSlice sl30 rfl rfl rfl (by omega)) rfl ?_
        refine ops_ro' rfl (ro_load sc9 rfl (Rd.pick 2 rfl (Rd.elem (j := 0) (RdN.row) Tx.len (List.getElem?_eq_getElem hj) rfl))) rfl ?_
        refine ops_eff' rfl (eff_call Tryd.call17 rfl rfl (by repeat (first | exact Split.nil _ | apply Split.cons 0 rfl | apply Split.cons 1 rfl | apply Split.cons 2 rfl | apply Split.cons 3 rfl | apply Split.cons 4 rfl | apply Split.cons 5 rfl | apply Split.cons 6 rfl | apply Split.cons 7 rfl | apply Split.cons 8 rfl | apply Split.cons 9 rfl | apply Split.cons 10 rfl | apply Split.cons 11 rfl)) (rRight_spec _ (by omega))) rfl ?_
        rintro _ H' ⟨_, ⟨rfl, rfl⟩, hH⟩
        simp only [List.cons_append, List.nil_append, List.eraseIdx_cons_zero, List.eraseIdx_cons_succ, List.set_cons_zero, List.set_cons_succ] at hH
        subst hH
        refine ops_nil ?_
        refine Then_normal ?_
        refine wp_cond' rfl (fun hc46 => ?_) (fun hc46 => ?_)
        · skip
          refine wp_region' ?_
          refine ops_ro' rfl (ro_move rfl) rfl ?_
          refine ops_ro' rfl (ro_fieldAddr fa40_3 rfl) rfl ?_
          refine ops_ro' rfl (ro_load sc30 rfl (Rd.pick 1 rfl (Rd.own rfl))) rfl ?_
          refine ops_ro' rfl (ro_move rfl) rfl ?_
          refine ops_ro' rfl (ro_indexSlice sl30 rfl rfl rfl (by omega)) rfl ?_
          refine ops_ro' rfl (ro_load sc9 rfl (Rd.pick 2 rfl (Rd.elem (j := 0) (RdN.row) Tx.len (List.getElem?_eq_getElem hj) rfl))) rfl ?_
          refine ops_eff' rfl (eff_lit sl30 rfl (sbld (cs := [_]) [(.string ByteArray.empty)] sl30 (by decide) (by kernel_rfl) rfl) rfl (by decide)) rfl ?_
          rintro _ _ ⟨b53, rfl, rfl⟩
          refine ops_eff' rfl (eff_appF (f := Tx.cs) (l2 := [xs[j]]) 1 sl30 (.inl ⟨9, Tryd.underlying30⟩) rfl rfl rfl (by first | exact Src.flatv Tx.len Tx.one (Vw.pick 0 rfl hv) | exact Src.flatv Tx.len Tx.one (Vw.pick 1 rfl hv) | exact Src.flatv Tx.len Tx.one (Vw.pick 2 rfl hv) | exact Src.flatv Tx.len Tx.one (Vw.pick 3 rfl hv) | exact Src.flatv Tx.len Tx.one (Vw.pick 4 rfl hv) | exact Src.flatv Tx.len Tx.one (Vw.pick 5 rfl hv) | exact Src.flatv Tx.len Tx.one (Vw.pick 6 rfl hv) | exact Src.flatv Tx.len Tx.one (Vw.pick 7 rfl hv) | exact Src.flatv Tx.len Tx.one (Vw.pick 8 rfl hv) | exact Src.flatv Tx.len Tx.one (Vw.pick 9 rfl hv) | exact Src.flatv Tx.len Tx.one (Vw.pick 10 rfl hv) | exact Src.flatv Tx.len Tx.one (Vw.pick 11 rfl hv) | exact Src.flatv Tx.len Tx.one (Vw.pick 0 rfl Vw.row) | exact Src.flatv Tx.len Tx.one (Vw.pick 1 rfl Vw.row) | exact Src.flatv Tx.len Tx.one (Vw.pick 2 rfl Vw.row) | exact Src.flatv Tx.len Tx.one (Vw.pick 3 rfl Vw.row) | exact Src.flatv Tx.len Tx.one (Vw.pick 4 rfl Vw.row) | exact Src.flatv Tx.len Tx.one (Vw.pick 5 rfl Vw.row) | exact Src.flatv Tx.len Tx.one (Vw.pick 6 rfl Vw.row) | exact Src.flatv Tx.len Tx.one (Vw.pick 7 rfl Vw.row) | exact Src.flatv Tx.len Tx.one (Vw.pick 8 rfl Vw.row) | exact Src.flatv Tx.len Tx.one (Vw.pick 9 rfl Vw.row) | exact Src.flatv Tx.len Tx.one (Vw.pick 10 rfl Vw.row) | exact Src.flatv Tx.len Tx.one (Vw.pick 11 rfl Vw.row)) (by simp only [List.length_cons, List.length_nil]; have := nms_le xs j; omega) (by simp only [List.length_cons, List.length_nil]; have := nms_le xs j; omega)) rfl ?_
          rintro _ _ ⟨p54, c54, rfl, hn54, rfl⟩
          simp only [List.set_cons_zero, List.set_cons_succ]
          rw [← nms_yes hj hc46]
          refine ops_ro' rfl (ro_assign rfl) rfl ?_
          refine ops_nil ?_
          refine InBlock_normal ?_
          refine Then_normal ?_
          refine wp_region' ?_
          refine ops_ro' rfl (ro_move rfl) rfl ?_
          refine ops_ro' rfl (ro_add rfl rfl (wrap_inc (by omega))) rfl ?_
          refine ops_ro' rfl (ro_assign rfl) rfl ?_
          refine ops_nil ?_
          refine Then_normal ?_
          refine back (m2 - 1) (by omega) (kept ⟨j + 1, p54, c54, by omega, rfl, rfl⟩ ?_ ?_ ?_)
          · exact (by repeat (first | exact Has.nil _ | refine Has.cons rfl ?_))
          · exact (by repeat (first | exact Has.nil _ | refine Has.cons rfl ?_))
          · exact (SubH.cons 1 rfl (SubH.cons 1 rfl (SubH.cons 1 rfl (SubH.cons 1 rfl (SubH.cons 1 rfl (SubH.cons 1 rfl (SubH.nil _)))))))
        · skip
          rw [← nms_no hj (by simpa using hc46)]
          refine wp_skip' ?_
          refine InBlock_normal ?_
          refine Then_normal ?_
          refine wp_region' ?_
          refine ops_ro' rfl (ro_move rfl) rfl ?_
          refine ops_ro' rfl (ro_add rfl rfl (wrap_inc (by omega))) rfl ?_
          refine ops_ro' rfl (ro_assign rfl) rfl ?_
          refine ops_nil ?_
          refine Then_normal ?_
          refine back (m2 - 1) (by omega) (kept ⟨j + 1, p6, c6, by omega, rfl, rfl⟩ ?_ ?_ ?_)
          · exact (by repeat (first | exact Has.nil _ | refine Has.cons rfl ?_))
          · exact (by repeat (first | exact Has.nil _ | refine Has.cons rfl ?_))
          · exact SubH.refl _
      · replace hc38 := of_decide_eq_false hc38
        dsimp only at hc38
        obtain rfl : j = xs.length := by omega
        refine wp_know (fun w F s => row_caps 0 rfl s) ?_
        intro hc6
        have hnj := nms_j hx66 hx8 xs.length
        have hnle := nms_le xs xs.length
        refine wp_exit' ?_
        refine Then_exit ?_
        refine Then_exit ?_
        refine InBlock_here ?_
        refine Then_normal ?_
        refine wp_seq' ?_
        refine wp_region' ?_
        refine ops_ro' rfl (ro_move rfl) rfl ?_
        refine ops_ro' rfl (ro_fieldAddr fa40_1 rfl) rfl ?_
        refine ops_ro' rfl (ro_load sc38 rfl (Rd.pick 1 rfl (Rd.own rfl))) rfl ?_
        refine ops_ro' rfl (ro_rem rfl rfl (by omega) (show ((l[i].n : Nat) : Int).tmod 256 = ((l[i].n % 256 : Nat) : Int) from by rw [Int.tmod_eq_emod_of_nonneg (by omega)]; omega)) rfl ?_
        refine ops_ro' rfl (ro_conv Tryd.underlying38 Tryd.underlying3 rfl (wrap_i64_in (by omega) (by omega))) rfl ?_
        refine ops_eff' rfl (eff_call Tryd.call18 rfl rfl (by repeat (first | exact Split.nil _ | apply Split.cons 0 rfl | apply Split.cons 1 rfl | apply Split.cons 2 rfl | apply Split.cons 3 rfl | apply Split.cons 4 rfl | apply Split.cons 5 rfl | apply Split.cons 6 rfl | apply Split.cons 7 rfl | apply Split.cons 8 rfl | apply Split.cons 9 rfl | apply Split.cons 10 rfl | apply Split.cons 11 rfl)) (byte_spec pw pp cp a ((l[i].n % 256 : Nat) : Int) (by omega))) rfl ?_
        rintro _ H' ⟨_, ⟨pw1, cw1, rfl, rfl⟩, hH⟩
        simp only [List.cons_append, List.nil_append, List.eraseIdx_cons_zero, List.eraseIdx_cons_succ, List.set_cons_zero, List.set_cons_succ] at hH
        subst hH
        obtain ⟨a1, ha1⟩ : ∃ z, z = a ++ [b8 ((l[i].n % 256 : Nat) : Int)] := ⟨_, rfl⟩
        rw [← ha1]
        have hl1 : a1.length ≤ 40001 := by
          have h1 := top_le s
          rw [ha1]; simp only [mp, List.length_append, be_length, List.length_cons, List.length_nil]; omega
        refine ops_nil ?_
        refine Then_normal ?_
        refine wp_seq' ?_
        refine wp_region' ?_
        refine ops_ro' rfl (ro_move rfl) rfl ?_
        refine ops_ro' rfl (ro_fieldAddr fa40_1 rfl) rfl ?_
        refine ops_ro' rfl (ro_load sc38 rfl (Rd.pick 3 rfl (Rd.own rfl))) rfl ?_
        refine ops_ro' rfl (ro_conv Tryd.underlying38 Tryd.underlying44 rfl (conv32 l[i].n)) rfl ?_
        refine ops_eff' rfl (eff_call Tryd.call19 rfl rfl (by repeat (first | exact Split.nil _ | apply Split.cons 0 rfl | apply Split.cons 1 rfl | apply Split.cons 2 rfl | apply Split.cons 3 rfl | apply Split.cons 4 rfl | apply Split.cons 5 rfl | apply Split.cons 6 rfl | apply Split.cons 7 rfl | apply Split.cons 8 rfl | apply Split.cons 9 rfl | apply Split.cons 10 rfl | apply Split.cons 11 rfl)) (u32_at pw pw1 cw1 a1 (l[i].n % 4294967296) _ rfl (by omega) (by omega))) rfl ?_
        rintro _ H' ⟨_, ⟨pw2, cw2, rfl, rfl⟩, hH⟩
        simp only [List.cons_append, List.nil_append, List.eraseIdx_cons_zero, List.eraseIdx_cons_succ, List.set_cons_zero, List.set_cons_succ] at hH
        subst hH
        obtain ⟨a2, ha2⟩ : ∃ z, z = a1 ++ be (l[i].n % 4294967296) 4 := ⟨_, rfl⟩
        rw [← ha2]
        have hl2 : a2.length ≤ 40005 := by
          have h1 := top_le s
          rw [ha2]; simp only [mp, List.length_append, be_length, List.length_cons, List.length_nil]; omega
        refine ops_nil ?_
        refine Then_normal ?_
        refine wp_seq' ?_
        refine wp_region' ?_
        refine ops_ro' rfl (ro_move rfl) rfl ?_
        refine ops_ro' rfl (ro_fieldAddr fa40_1 rfl) rfl ?_
        refine ops_ro' rfl (ro_load sc38 rfl (Rd.pick 3 rfl (Rd.own rfl))) rfl ?_
        refine ops_eff' rfl (eff_call Tryd.call20 rfl rfl (by repeat (first | exact Split.nil _ | apply Split.cons 0 rfl | apply Split.cons 1 rfl | apply Split.cons 2 rfl | apply Split.cons 3 rfl | apply Split.cons 4 rfl | apply Split.cons 5 rfl | apply Split.cons 6 rfl | apply Split.cons 7 rfl | apply Split.cons 8 rfl | apply Split.cons 9 rfl | apply Split.cons 10 rfl | apply Split.cons 11 rfl)) (u64_at pw pw2 cw2 a2 l[i].n _ rfl (by omega))) rfl ?_
        rintro _ H' ⟨_, ⟨pw3, cw3, rfl, rfl⟩, hH⟩
        simp only [List.cons_append, List.nil_append, List.eraseIdx_cons_zero, List.eraseIdx_cons_succ, List.set_cons_zero, List.set_cons_succ] at hH
        subst hH
        obtain ⟨a3, ha3⟩ : ∃ z, z = a2 ++ be l[i].n 8 := ⟨_, rfl⟩
        rw [← ha3]
        have hl3 : a3.length ≤ 40013 := by
          have h1 := top_le s
          rw [ha3]; simp only [mp, List.length_append, be_length, List.length_cons, List.length_nil]; omega
        refine ops_nil ?_
        refine Then_normal ?_
        refine wp_seq' ?_
        refine wp_region' ?_
        refine ops_ro' rfl (ro_move rfl) rfl ?_
        refine ops_ro' rfl (ro_fieldAddr fa40_2 rfl) rfl ?_
        refine ops_ro' rfl (ro_load sc9 rfl (Rd.pick 3 rfl (Rd.own rfl))) rfl ?_
        refine ops_eff' rfl (eff_call Tryd.call10 rfl rfl (by repeat (first | exact Split.nil _ | apply Split.cons 0 rfl | apply Split.cons 1 rfl | apply Split.cons 2 rfl | apply Split.cons 3 rfl | apply Split.cons 4 rfl | apply Split.cons 5 rfl | apply Split.cons 6 rfl | apply Split.cons 7 rfl | apply Split.cons 8 rfl | apply Split.cons 9 rfl | apply Split.cons 10 rfl | apply Split.cons 11 rfl)) (text_at pw pw3 cw3 a3 s (by omega))) rfl ?_
        rintro _ H' ⟨_, ⟨pw4, cw4, rfl, rfl⟩, hH⟩
        simp only [List.cons_append, List.nil_append, List.eraseIdx_cons_zero, List.eraseIdx_cons_succ, List.set_cons_zero, List.set_cons_succ] at hH
        subst hH
        rw [List.append_assoc]
        obtain ⟨a4, ha4⟩ : ∃ z, z = a3 ++ (be s.length 4 ++ s) := ⟨_, rfl⟩
        rw [← ha4]
        have hl4 : a4.length ≤ 40300 := by
          have h1 := top_le s
          rw [ha4]; simp only [mp, List.length_append, be_length, List.length_cons, List.length_nil]; omega
        refine ops_nil ?_
        refine Then_normal ?_
        refine wp_seq' ?_
        refine wp_region' ?_
        refine ops_ro' rfl (ro_move rfl) rfl ?_
        refine ops_ro' rfl (ro_fieldAddr fa40_2 rfl) rfl ?_
        refine ops_ro' rfl (ro_load sc9 rfl (Rd.pick 3 rfl (Rd.own rfl))) rfl ?_
        refine ops_eff' rfl (eff_toBytesS Tryd.underlying9 Tryd.underlying28 Tryd.underlying5 rfl (by simp only [maxLen]; omega)) rfl ?_
        rintro _ _ ⟨b77, c77, rfl, rfl⟩
        refine ops_know (fun w F s => row_caps 0 rfl s) ?_
        intro hcp
        refine ops_eff' rfl (eff_callM (Pre := [_, _]) Tryd.call21 rfl rfl (by repeat (first | exact Split.nil _ | apply Split.cons 0 rfl | apply Split.cons 1 rfl | apply Split.cons 2 rfl | apply Split.cons 3 rfl | apply Split.cons 4 rfl | apply Split.cons 5 rfl | apply Split.cons 6 rfl | apply Split.cons 7 rfl | apply Split.cons 8 rfl | apply Split.cons 9 rfl | apply Split.cons 10 rfl | apply Split.cons 11 rfl)) (tri_K (mpint_at _ _ _ _ s rfl (by first | exact (Vw.pick 0 rfl hv) | exact (Vw.pick 1 rfl hv) | exact (Vw.pick 2 rfl hv) | exact (Vw.pick 3 rfl hv) | exact (Vw.pick 4 rfl hv) | exact (Vw.pick 5 rfl hv) | exact (Vw.pick 6 rfl hv) | exact (Vw.pick 7 rfl hv) | exact (Vw.pick 8 rfl hv) | exact (Vw.pick 9 rfl hv) | exact (Vw.pick 10 rfl hv) | exact (Vw.pick 11 rfl hv) | exact Vw.pick 0 rfl Vw.row | exact Vw.pick 1 rfl Vw.row | exact Vw.pick 2 rfl Vw.row | exact Vw.pick 3 rfl Vw.row | exact Vw.pick 4 rfl Vw.row | exact Vw.pick 5 rfl Vw.row | exact Vw.pick 6 rfl Vw.row | exact Vw.pick 7 rfl Vw.row | exact Vw.pick 8 rfl Vw.row | exact Vw.pick 9 rfl Vw.row | exact Vw.pick 10 rfl Vw.row | exact Vw.pick 11 rfl Vw.row | exact Vw.nil _ | exact Vw.empty _ _) hcp pw pw4 cw4 a4 (by omega) (by omega)))) rfl ?_
        rintro _ H' ⟨_, ⟨pw5, cw5, rfl, rfl⟩, hH⟩
        simp only [List.cons_append, List.nil_append, List.eraseIdx_cons_zero, List.eraseIdx_cons_succ, List.set_cons_zero, List.set_cons_succ] at hH
        subst hH
        obtain ⟨a5, ha5⟩ : ∃ z, z = a4 ++ mp s := ⟨_, rfl⟩
        rw [← ha5]
        have hl5 : a5.length ≤ 40600 := by
          have h1 := top_le s
          rw [ha5]; simp only [mp, List.length_append, be_length, List.length_cons, List.length_nil]; omega
        refine ops_nil ?_
        refine Then_normal ?_
        refine wp_seq' ?_
        refine wp_region' ?_
        refine ops_ro' rfl (ro_move rfl) rfl ?_
        refine ops_ro' rfl (ro_move rfl) rfl ?_
        refine ops_eff' rfl (eff_callM (Pre := [_, _]) Tryd.call22 rfl rfl (by repeat (first | exact Split.nil _ | apply Split.cons 0 rfl | apply Split.cons 1 rfl | apply Split.cons 2 rfl | apply Split.cons 3 rfl | apply Split.cons 4 rfl | apply Split.cons 5 rfl | apply Split.cons 6 rfl | apply Split.cons 7 rfl | apply Split.cons 8 rfl | apply Split.cons 9 rfl | apply Split.cons 10 rfl | apply Split.cons 11 rfl)) (tri_K (names_spec _ p6 c6 (nms xs xs.length) (by rw [← txs_map]; exact (by first | exact (Vw.pick 0 rfl hv) | exact (Vw.pick 1 rfl hv) | exact (Vw.pick 2 rfl hv) | exact (Vw.pick 3 rfl hv) | exact (Vw.pick 4 rfl hv) | exact (Vw.pick 5 rfl hv) | exact (Vw.pick 6 rfl hv) | exact (Vw.pick 7 rfl hv) | exact (Vw.pick 8 rfl hv) | exact (Vw.pick 9 rfl hv) | exact (Vw.pick 10 rfl hv) | exact (Vw.pick 11 rfl hv) | exact Vw.pick 0 rfl Vw.row | exact Vw.pick 1 rfl Vw.row | exact Vw.pick 2 rfl Vw.row | exact Vw.pick 3 rfl Vw.row | exact Vw.pick 4 rfl Vw.row | exact Vw.pick 5 rfl Vw.row | exact Vw.pick 6 rfl Vw.row | exact Vw.pick 7 rfl Vw.row | exact Vw.pick 8 rfl Vw.row | exact Vw.pick 9 rfl Vw.row | exact Vw.pick 10 rfl Vw.row | exact Vw.pick 11 rfl Vw.row | exact Vw.nil _ | exact Vw.empty _ _)) hc6 (by omega) (by rw [joined_c]; omega) pw pw5 cw5 a5 (by omega)))) rfl ?_
        rintro _ H' ⟨_, ⟨pw6, cw6, rfl, rfl⟩, hH⟩
        simp only [List.cons_append, List.nil_append, List.eraseIdx_cons_zero, List.eraseIdx_cons_succ, List.set_cons_zero, List.set_cons_succ] at hH
        subst hH
        rw [joined_c]
        obtain ⟨a6, ha6⟩ : ∃ z, z = a5 ++ (be (joinc 44 (nms xs xs.length)).length 4 ++ joinc 44 (nms xs xs.length)) := ⟨_, rfl⟩
        rw [← ha6]
        have hl6 : a6.length ≤ 41400 := by
          have h1 := top_le s
          rw [ha6]; simp only [mp, List.length_append, be_length, List.length_cons, List.length_nil]; omega
        refine ops_nil ?_
        refine Then_normal ?_
        refine wp_seq' ?_
        refine wp_region' ?_
        refine ops_ro' rfl (ro_move rfl) rfl ?_
        refine ops_ro' rfl (ro_fieldAddr fa40_1 rfl) rfl ?_
        refine ops_ro' rfl (ro_load sc38 rfl (Rd.pick 4 rfl (Rd.own rfl))) rfl ?_
        refine ops_ro' rfl (ro_rem rfl rfl (by omega) (show ((l[i].n : Nat) : Int).tmod 2 = ((l[i].n % 2 : Nat) : Int) from by rw [Int.tmod_eq_emod_of_nonneg (by omega)]; omega)) rfl ?_
        refine ops_ro' rfl (ro_eql rfl rfl rfl) rfl ?_
        refine ops_eff' rfl (eff_call Tryd.call23 rfl rfl (by repeat (first | exact Split.nil _ | apply Split.cons 0 rfl | apply Split.cons 1 rfl | apply Split.cons 2 rfl | apply Split.cons 3 rfl | apply Split.cons 4 rfl | apply Split.cons 5 rfl | apply Split.cons 6 rfl | apply Split.cons 7 rfl | apply Split.cons 8 rfl | apply Split.cons 9 rfl | apply Split.cons 10 rfl | apply Split.cons 11 rfl)) (wbool_spec pw pw6 cw6 a6 _ (by omega))) rfl ?_
        rintro _ H' ⟨_, ⟨pw7, cw7, rfl, rfl⟩, hH⟩
        simp only [List.cons_append, List.nil_append, List.eraseIdx_cons_zero, List.eraseIdx_cons_succ, List.set_cons_zero, List.set_cons_succ] at hH
        subst hH
        obtain ⟨a7, ha7⟩ : ∃ z, z = a6 ++ [b8 (if decide (((l[i].n % 2 : Nat) : Int) = 1) = true then 1 else 0)] := ⟨_, rfl⟩
        rw [← ha7]
        have hl7 : a7.length ≤ 41401 := by
          have h1 := top_le s
          rw [ha7]; simp only [mp, List.length_append, be_length, List.length_cons, List.length_nil]; omega
        refine ops_nil ?_
        refine Then_normal ?_
        refine wp_region' ?_
        refine ops_ro' rfl (ro_move rfl) rfl ?_
        refine ops_ro' rfl (ro_fieldAddr fa40_2 rfl) rfl ?_
        refine ops_ro' rfl (ro_load sc9 rfl (Rd.pick 4 rfl (Rd.own rfl))) rfl ?_
        refine ops_eff' rfl (eff_toBytesS Tryd.underlying9 Tryd.underlying28 Tryd.underlying5 rfl (by simp only [maxLen]; omega)) rfl ?_
        rintro _ _ ⟨b91, c91, rfl, rfl⟩
        refine ops_eff' rfl (eff_callM (Pre := [_, _]) Tryd.call24 rfl rfl (by repeat (first | exact Split.nil _ | apply Split.cons 0 rfl | apply Split.cons 1 rfl | apply Split.cons 2 rfl | apply Split.cons 3 rfl | apply Split.cons 4 rfl | apply Split.cons 5 rfl | apply Split.cons 6 rfl | apply Split.cons 7 rfl | apply Split.cons 8 rfl | apply Split.cons 9 rfl | apply Split.cons 10 rfl | apply Split.cons 11 rfl)) (tri_K (wraw_spec _ _ _ s (by first | exact (Vw.pick 0 rfl hv) | exact (Vw.pick 1 rfl hv) | exact (Vw.pick 2 rfl hv) | exact (Vw.pick 3 rfl hv) | exact (Vw.pick 4 rfl hv) | exact (Vw.pick 5 rfl hv) | exact (Vw.pick 6 rfl hv) | exact (Vw.pick 7 rfl hv) | exact (Vw.pick 8 rfl hv) | exact (Vw.pick 9 rfl hv) | exact (Vw.pick 10 rfl hv) | exact (Vw.pick 11 rfl hv) | exact Vw.pick 0 rfl Vw.row | exact Vw.pick 1 rfl Vw.row | exact Vw.pick 2 rfl Vw.row | exact Vw.pick 3 rfl Vw.row | exact Vw.pick 4 rfl Vw.row | exact Vw.pick 5 rfl Vw.row | exact Vw.pick 6 rfl Vw.row | exact Vw.pick 7 rfl Vw.row | exact Vw.pick 8 rfl Vw.row | exact Vw.pick 9 rfl Vw.row | exact Vw.pick 10 rfl Vw.row | exact Vw.pick 11 rfl Vw.row | exact Vw.nil _ | exact Vw.empty _ _) pw pw7 cw7 a7 (by omega) (by omega)))) rfl ?_
        rintro _ H' ⟨_, ⟨pw8, cw8, rfl, rfl⟩, hH⟩
        simp only [List.cons_append, List.nil_append, List.eraseIdx_cons_zero, List.eraseIdx_cons_succ, List.set_cons_zero, List.set_cons_succ] at hH
        subst hH
        obtain ⟨a8, ha8⟩ : ∃ z, z = a7 ++ s := ⟨_, rfl⟩
        rw [← ha8]
        have hl8 : a8.length ≤ 41700 := by
          have h1 := top_le s
          rw [ha8]; simp only [mp, List.length_append, be_length, List.length_cons, List.length_nil]; omega
        refine ops_nil ?_
        refine InBlock_normal ?_
        refine Then_normal ?_
        refine wp_region' ?_
        refine ops_ro' rfl (ro_move rfl) rfl ?_
        refine ops_ro' rfl (ro_add rfl rfl (wrap_inc (by omega))) rfl ?_
        refine ops_ro' rfl (ro_assign rfl) rfl ?_
        refine ops_nil ?_
        refine Then_normal ?_
        refine back (m - 1) (by omega) (kept ⟨i + 1, pw8, cw8, a8, ⟨by omega, by omega, by rw [ha8, ha7, ha6, ha5, ha4, ha3, ha2, ha1, ha, encs_succ hi, enc1, show ps l[i] = s from hss, show px l[i] = xs from hxs, enc2]; simp only [List.append_assoc]⟩, rfl, rfl⟩ ?_ ?_ ?_)
        · exact (by repeat (first | exact Has.nil _ | refine Has.cons rfl ?_))
        · exact (by repeat (first | exact Has.nil _ | refine Has.cons rfl ?_))
        · exact (SubH.cons 0 rfl (SubH.cons 0 rfl (SubH.cons 5 rfl (SubH.nil _))))
    · replace hc26 := of_decide_eq_false hc26
      refine wp_exit' ?_
      refine Then_exit ?_
      refine Then_exit ?_
      refine InBlock_here ?_
      refine Then_normal ?_
      refine wp_seq' ?_
      have ha20 : a = (l.take 20).flatMap enc1 := by
        rw [ha, encs]
        by_cases h : i = 20
        · rw [h]
        · rw [List.take_of_length_le (by omega), List.take_of_length_le (by omega)]
      have hla : a.length ≤ 40000 := by have := encs_len l i; rw [← ha] at this; omega
      refine wp_region' ?_
      refine ops_ro' rfl (ro_move rfl) rfl ?_
      refine ops_eff' rfl (eff_call Tryd.call12 rfl rfl (by repeat (first | exact Split.nil _ | apply Split.cons 0 rfl | apply Split.cons 1 rfl | apply Split.cons 2 rfl | apply Split.cons 3 rfl | apply Split.cons 4 rfl | apply Split.cons 5 rfl | apply Split.cons 6 rfl | apply Split.cons 7 rfl | apply Split.cons 8 rfl | apply Split.cons 9 rfl | apply Split.cons 10 rfl | apply Split.cons 11 rfl)) (done_spec pw pp cp a (by omega))) rfl ?_
      rintro _ H' ⟨_, ⟨pd, cd, rfl, _, rfl⟩, hH⟩
      simp only [List.cons_append, List.nil_append, List.eraseIdx_cons_zero, List.eraseIdx_cons_succ, List.set_cons_zero, List.set_cons_succ] at hH
      subst hH
      refine ops_eff' rfl (eff_call Tryd.call11 rfl rfl (by repeat (first | exact Split.nil _ | apply Split.cons 0 rfl | apply Split.cons 1 rfl | apply Split.cons 2 rfl | apply Split.cons 3 rfl | apply Split.cons 4 rfl | apply Split.cons 5 rfl | apply Split.cons 6 rfl | apply Split.cons 7 rfl | apply Split.cons 8 rfl | apply Split.cons 9 rfl | apply Split.cons 10 rfl | apply Split.cons 11 rfl)) (newReader_spec _ _ _ a Vw.row (by omega))) rfl ?_
      rintro _ H' ⟨_, ⟨pr, p3, c3, rfl, rfl⟩, hH⟩
      simp only [List.cons_append, List.nil_append, List.eraseIdx_cons_zero, List.eraseIdx_cons_succ, List.set_cons_zero, List.set_cons_succ] at hH
      subst hH
      have hg0 := R.good_new a (by omega)
      have hh0 : Here (R.new a) (((l.take 20).drop 0).flatMap enc1) := by rw [List.drop_zero, ← ha20]; exact Here.new _
      refine ops_ro' rfl (ro_assign rfl) rfl ?_
      refine ops_nil ?_
      refine Then_normal ?_
      refine wp_seq' ?_
      refine wp_seq' ?_
      refine wp_region' ?_
      refine ops_ro' rfl (ro_move rfl) rfl ?_
      refine ops_ro' rfl (ro_ptrEqlNil Tryd.underlying26 rfl rfl rfl) rfl ?_
      refine ops_nil ?_
      refine Then_normal ?_
      refine wp_condF rfl ?_
      refine wp_skip' ?_
      refine Then_normal ?_
      refine wp_seq' ?_
      refine wp_seq' ?_
      refine wp_region' ?_
      refine ops_ro' rfl (ro_assign rfl) rfl ?_
      refine ops_nil ?_
      refine Then_normal ?_
      refine wp_block' ?_
      refine wp_loopK 26 (fun m Δ LL => ∃ (i : Nat) (q1 : R), (i + m = l.length ∧ i ≤ 20 ∧ q1.Good ∧ Here q1 (((l.take 20).drop i).flatMap enc1)) ∧ Δ = [(9, .int .i64 (i : Nat))] ∧ LL = rd pr p3 c3 q1 ++ [V]) (m := l.length) (Has.cons (k := 0) rfl (Has.cons (k := 8) rfl (Has.nil _))) (kept ⟨0, R.new a, ⟨by omega, by omega, hg0, hh0⟩, rfl, rfl⟩ (by repeat (first | exact Has.nil _ | refine Has.cons rfl ?_)) (by repeat (first | exact Has.nil _ | refine Has.cons rfl ?_)) (by repeat (first | exact SubH.nil _ | refine SubH.cons 0 rfl ?_ | refine SubH.cons 1 rfl ?_ | refine SubH.cons 2 rfl ?_ | refine SubH.cons 3 rfl ?_ | refine SubH.cons 4 rfl ?_ | refine SubH.cons 5 rfl ?_ | refine SubH.cons 6 rfl ?_ | refine SubH.cons 7 rfl ?_ | refine SubH.cons 8 rfl ?_ | refine SubH.cons 9 rfl ?_ | refine SubH.cons 10 rfl ?_ | refine SubH.cons 11 rfl ?_ | refine SubH.cons 12 rfl ?_ | refine SubH.cons 13 rfl ?_ | refine SubH.rown ?_))) ?_
      rintro m4 Δ LL ⟨i, q1, ⟨hm, hi20, hg, hh⟩, rfl, rfl⟩
      simp only [List.cons_append, List.nil_append]
      refine wp_seq' ?_
      refine wp_seq' ?_
      refine wp_region' ?_
      refine ops_ro' rfl (ro_move rfl) rfl ?_
      refine ops_ro' rfl (ro_move rfl) rfl ?_
      refine ops_ro' rfl (ro_sliceLen Tryd.underlying37 rfl) rfl ?_
      refine ops_ro' rfl (ro_lss rfl rfl (decide_eq_true (by omega))) rfl ?_
      refine ops_ro' rfl (ro_move (v := .bool true) rfl) rfl ?_
      refine ops_ro' rfl (ro_move rfl) rfl ?_
      refine ops_ro' rfl (ro_lss rfl rfl rfl) rfl ?_
      refine ops_ro' rfl (ro_pick rfl rfl) rfl ?_
      refine ops_nil ?_
      refine Then_normal ?_
      refine wp_cond' rfl (fun hc105 => ?_) (fun hc105 => ?_)
      · replace hc105 := of_decide_eq_true hc105
        refine wp_skip' ?_
        refine Then_normal ?_
        refine wp_seq' ?_
        refine wp_block' ?_
        refine wp_seq' ?_
        have hi : i < l.length := by omega
        have hok := hP l[i] (List.getElem_mem hi)
        refine wp_know (fun w F s => vw_ptr (Vw.pick (H := [_, _, V]) 2 rfl hL) s (by omega)) ?_
        rintro ⟨b2, o2, rfl⟩
        refine wp_region' ?_
        refine ops_ro' rfl (ro_move rfl) rfl ?_
        refine ops_ro' rfl (ro_move rfl) rfl ?_
        refine ops_ro' rfl (ro_indexSlice sl37 rfl rfl rfl (by omega)) rfl ?_
        refine ops_ro' rfl (ro_loadA ag40 rfl (RdN.of_pick 2 rfl ((RdN.elem (vw_rdn hL) Pt.len (List.getElem?_eq_getElem hi)))) rfl) rfl ?_
        refine ops_eff' rfl (eff_call Tryd.call16 rfl rfl (by repeat (first | exact Split.nil _ | apply Split.cons 0 rfl | apply Split.cons 1 rfl | apply Split.cons 2 rfl | apply Split.cons 3 rfl | apply Split.cons 4 rfl | apply Split.cons 5 rfl | apply Split.cons 6 rfl | apply Split.cons 7 rfl | apply Split.cons 8 rfl | apply Split.cons 9 rfl | apply Split.cons 10 rfl | apply Split.cons 11 rfl)) (short_spec V l[i].kind l[i].n l[i].s l[i].l l[i].p l[i].c hok.vw (by have := hok.cap; simp only [maxLen] at this; omega))) rfl ?_
        rintro _ H' ⟨_, ⟨_, ⟨p5, c5, rfl, rfl⟩, rfl⟩, hH⟩
        simp only [List.cons_append, List.nil_append, List.eraseIdx_cons_zero, List.eraseIdx_cons_succ, List.set_cons_zero, List.set_cons_succ] at hH
        subst hH
        have hx8 := few2_n l[i].l
        have hx66 := few2_66 (l[i].l.take 8)
        have hsl : (l[i].s.take 200).length ≤ 200 := by rw [List.length_take]; omega
        generalize hxs : few2 (l[i].l.take 8) 66 = xs at *
        generalize hss : l[i].s.take 200 = s at *
        have hn64 := hok.n
        refine ops_eff' rfl (eff_alloc z40) rfl ?_
        rintro _ _ ⟨b10, rfl, rfl⟩
        refine ops_eff0 rfl (eff_storeA 0 ag40 rfl rfl rfl rfl rfl (Nat.le_of_ble_eq_true rfl) (warm_zero _)) rfl ?_
        rintro _ _ rfl
        refine ops_nil ?_
        refine Then_normal ?_
        refine wp_seq' ?_
        refine wp_region' ?_
        refine ops_ro' rfl (ro_assign rfl) rfl ?_
        refine ops_nil ?_
        refine Then_normal ?_
        refine wp_seq' ?_
        refine wp_seq' ?_
        refine wp_region' ?_
        refine ops_ro' rfl (ro_assign rfl) rfl ?_
        refine ops_nil ?_
        refine Then_normal ?_
        refine wp_block' ?_
        refine wp_loopK 31 (fun m Δ LL => ∃ (j : Nat) (p6 : Option Addr) (c6 : Nat), (j + m = xs.length) ∧ Δ = [(11, .slice p6 (nms xs j).length c6), (12, .int .i64 (j : Nat))] ∧ LL = [row 9 1 (.slice p6 (nms xs j).length c6) (nms xs j).length (txs (nms xs j)), own b10 (.cells (Pt.cs ⟨l[i].kind, l[i].n, s, xs, p5, c5⟩).toArray 40 (0, 0)), row 9 1 (.slice p5 xs.length c5) xs.length (txs xs)] ++ rd pr p3 c3 q1 ++ [V]) (m := xs.length) (Has.cons (k := 0) rfl (Has.cons (k := 8) rfl (Has.cons (k := 9) rfl (Has.cons (k := 10) rfl (Has.nil _))))) (kept ⟨0, none, 0, by omega, rfl, rfl⟩ (by repeat (first | exact Has.nil _ | refine Has.cons rfl ?_)) (by repeat (first | exact Has.nil _ | refine Has.cons rfl ?_)) (by repeat (first | exact SubH.nil _ | refine SubH.cons 0 rfl ?_ | refine SubH.cons 1 rfl ?_ | refine SubH.cons 2 rfl ?_ | refine SubH.cons 3 rfl ?_ | refine SubH.cons 4 rfl ?_ | refine SubH.cons 5 rfl ?_ | refine SubH.cons 6 rfl ?_ | refine SubH.cons 7 rfl ?_ | refine SubH.cons 8 rfl ?_ | refine SubH.cons 9 rfl ?_ | refine SubH.cons 10 rfl ?_ | refine SubH.cons 11 rfl ?_ | refine SubH.cons 12 rfl ?_ | refine SubH.cons 13 rfl ?_ | refine SubH.rown ?_))) ?_
        rintro m5 Δ LL ⟨j, p6, c6, hmj, rfl, rfl⟩
        simp only [List.cons_append, List.nil_append]
        refine wp_seq' ?_
        refine wp_seq' ?_
        refine wp_region' ?_
        refine ops_ro' rfl (ro_move rfl) rfl ?_
        refine ops_ro' rfl (ro_fieldAddr fa40_3 rfl) rfl ?_
        refine ops_ro' rfl (ro_load sc30 rfl (Rd.pick 1 rfl (Rd.own rfl))) rfl ?_
        refine ops_ro' rfl (ro_sliceLen Tryd.underlying30 rfl) rfl ?_
        refine ops_ro' rfl (ro_lss rfl rfl rfl) rfl ?_
        refine ops_nil ?_
        refine Then_normal ?_
        refine wp_cond' rfl (fun hc117 => ?_) (fun hc117 => ?_)
        · replace hc117 := of_decide_eq_true hc117
          dsimp only at hc117
          have hj : j < xs.length := by omega
          have hxj := hx66 _ (List.getElem_mem hj)
          refine wp_know (fun w F s => row_ptr' 2 rfl s (by omega)) ?_
          rintro ⟨bx, rfl⟩
          refine wp_skip' ?_
          refine Then_normal ?_
          refine wp_seq' ?_
          refine wp_block' ?_
          refine wp_seq' ?_
          refine wp_region' ?_
          refine ops_ro' rfl (ro_fieldAddr fa40_3 rfl) rfl ?_
          refine ops_ro' rfl (ro_load sc30 rfl (Rd.pick 1 rfl (Rd.own rfl))) rfl ?_
          refine ops_ro' rfl (ro_move rfl) rfl ?_
          refine ops_ro' rfl (ro_indexSlice sl30 rfl rfl rfl (by omega)) rfl ?_
          refine ops_ro' rfl (ro_load sc9 rfl (Rd.pick 2 rfl (Rd.elem (j := 0) (RdN.row) Tx.len (List.getElem?_eq_getElem hj) rfl))) rfl ?_
          refine ops_eff' rfl (eff_call Tryd.call17 rfl rfl (by repeat (first | exact Split.nil _ | apply Split.cons 0 rfl | apply Split.cons 1 rfl | apply Split.cons 2 rfl | apply Split.cons 3 rfl | apply Split.cons 4 rfl | apply Split.cons 5 rfl | apply Split.cons 6 rfl | apply Split.cons 7 rfl | apply Split.cons 8 rfl | apply Split.cons 9 rfl | apply Split.cons 10 rfl | apply Split.cons 11 rfl)) (rRight_spec _ (by omega))) rfl ?_
          rintro _ H' ⟨_, ⟨rfl, rfl⟩, hH⟩
          simp only [List.cons_append, List.nil_append, List.eraseIdx_cons_zero, List.eraseIdx_cons_succ, List.set_cons_zero, List.set_cons_succ] at hH
          subst hH
          refine ops_nil ?_
          refine Then_normal ?_
          refine wp_cond' rfl (fun hc125 => ?_) (fun hc125 => ?_)
          · skip
            refine wp_region' ?_
            refine ops_ro' rfl (ro_move rfl) rfl ?_
            refine ops_ro' rfl (ro_fieldAddr fa40_3 rfl) rfl ?_
            refine ops_ro' rfl (ro_load sc30 rfl (Rd.pick 1 rfl (Rd.own rfl))) rfl ?_
            refine ops_ro' rfl (ro_move rfl) rfl ?_
            refine ops_ro' rfl (ro_indexSlice sl30 rfl rfl rfl (by omega)) rfl ?_
            refine ops_ro' rfl (ro_load sc9 rfl (Rd.pick 2 rfl (Rd.elem (j := 0) (RdN.row) Tx.len (List.getElem?_eq_getElem hj) rfl))) rfl ?_
            refine ops_eff' rfl (eff_lit sl30 rfl (sbld (cs := [_]) [(.string ByteArray.empty)] sl30 (by decide) (by kernel_rfl) rfl) rfl (by decide)) rfl ?_
            rintro _ _ ⟨b132, rfl, rfl⟩
            refine ops_eff' rfl (eff_appF (f := Tx.cs) (l2 := [xs[j]]) 1 sl30 (.inl ⟨9, Tryd.underlying30⟩) rfl rfl rfl (by first | exact Src.flatv Tx.len Tx.one (Vw.pick 0 rfl hv) | exact Src.flatv Tx.len Tx.one (Vw.pick 1 rfl hv) | exact Src.flatv Tx.len Tx.one (Vw.pick 2 rfl hv) | exact Src.flatv Tx.len Tx.one (Vw.pick 3 rfl hv) | exact Src.flatv Tx.len Tx.one (Vw.pick 4 rfl hv) | exact Src.flatv Tx.len Tx.one (Vw.pick 5 rfl hv) | exact Src.flatv Tx.len Tx.one (Vw.pick 6 rfl hv) | exact Src.flatv Tx.len Tx.one (Vw.pick 7 rfl hv) | exact Src.flatv Tx.len Tx.one (Vw.pick 8 rfl hv) | exact Src.flatv Tx.len Tx.one (Vw.pick 9 rfl hv) | exact Src.flatv Tx.len Tx.one (Vw.pick 10 rfl hv) | exact Src.flatv Tx.len Tx.one (Vw.pick 11 rfl hv) | exact Src.flatv Tx.len Tx.one (Vw.pick 0 rfl Vw.row) | exact Src.flatv Tx.len Tx.one (Vw.pick 1 rfl Vw.row) | exact Src.flatv Tx.len Tx.one (Vw.pick 2 rfl Vw.row) | exact Src.flatv Tx.len Tx.one (Vw.pick 3 rfl Vw.row) | exact Src.flatv Tx.len Tx.one (Vw.pick 4 rfl Vw.row) | exact Src.flatv Tx.len Tx.one (Vw.pick 5 rfl Vw.row) | exact Src.flatv Tx.len Tx.one (Vw.pick 6 rfl Vw.row) | exact Src.flatv Tx.len Tx.one (Vw.pick 7 rfl Vw.row) | exact Src.flatv Tx.len Tx.one (Vw.pick 8 rfl Vw.row) | exact Src.flatv Tx.len Tx.one (Vw.pick 9 rfl Vw.row) | exact Src.flatv Tx.len Tx.one (Vw.pick 10 rfl Vw.row) | exact Src.flatv Tx.len Tx.one (Vw.pick 11 rfl Vw.row)) (by simp only [List.length_cons, List.length_nil]; have := nms_le xs j; omega) (by simp only [List.length_cons, List.length_nil]; have := nms_le xs j; omega)) rfl ?_
            rintro _ _ ⟨p133, c133, rfl, hn133, rfl⟩
            simp only [List.set_cons_zero, List.set_cons_succ]
            rw [← nms_yes hj hc125]
            refine ops_ro' rfl (ro_assign rfl) rfl ?_
            refine ops_nil ?_
            refine InBlock_normal ?_
            refine Then_normal ?_
            refine wp_region' ?_
            refine ops_ro' rfl (ro_move rfl) rfl ?_
            refine ops_ro' rfl (ro_add rfl rfl (wrap_inc (by omega))) rfl ?_
            refine ops_ro' rfl (ro_assign rfl) rfl ?_
            refine ops_nil ?_
            refine Then_normal ?_
            refine back (m5 - 1) (by omega) (kept ⟨j + 1, p133, c133, by omega, rfl, rfl⟩ ?_ ?_ ?_)
            · exact (by repeat (first | exact Has.nil _ | refine Has.cons rfl ?_))
            · exact (by repeat (first | exact Has.nil _ | refine Has.cons rfl ?_))
            · exact (SubH.cons 1 rfl (SubH.cons 1 rfl (SubH.cons 1 rfl (SubH.cons 1 rfl (SubH.cons 1 rfl (SubH.cons 1 rfl (SubH.nil _)))))))
          · skip
            rw [← nms_no hj (by simpa using hc125)]
            refine wp_skip' ?_
            refine InBlock_normal ?_
            refine Then_normal ?_
            refine wp_region' ?_
            refine ops_ro' rfl (ro_move rfl) rfl ?_
            refine ops_ro' rfl (ro_add rfl rfl (wrap_inc (by omega))) rfl ?_
            refine ops_ro' rfl (ro_assign rfl) rfl ?_
            refine ops_nil ?_
            refine Then_normal ?_
            refine back (m5 - 1) (by omega) (kept ⟨j + 1, p6, c6, by omega, rfl, rfl⟩ ?_ ?_ ?_)
            · exact (by repeat (first | exact Has.nil _ | refine Has.cons rfl ?_))
            · exact (by repeat (first | exact Has.nil _ | refine Has.cons rfl ?_))
            · exact SubH.refl _
        · replace hc117 := of_decide_eq_false hc117
          dsimp only at hc117
          obtain rfl : j = xs.length := by omega
          refine wp_know (fun w F s => row_caps 0 rfl s) ?_
          intro hc6
          have hnj := nms_j hx66 hx8 xs.length
          have hnle := nms_le xs xs.length
          refine wp_exit' ?_
          refine Then_exit ?_
          refine Then_exit ?_
          refine InBlock_here ?_
          refine Then_normal ?_
          refine wp_seq' ?_
          refine wp_region' ?_
          refine ops_ro' rfl (ro_fieldAddr fa40_2 rfl) rfl ?_
          refine ops_ro' rfl (ro_load sc9 rfl (Rd.pick 1 rfl (Rd.own rfl))) rfl ?_
          refine ops_eff' rfl (eff_toBytesS Tryd.underlying9 Tryd.underlying28 Tryd.underlying5 rfl (by simp only [maxLen]; omega)) rfl ?_
          rintro _ _ ⟨b136, c136, rfl, rfl⟩
          refine ops_know (fun w F s => row_caps 0 rfl s) ?_
          intro hcs
          refine ops_ro' rfl (ro_assign rfl) rfl ?_
          refine ops_nil ?_
          refine Then_normal ?_
          refine wp_seq' ?_
          refine wp_block' ?_
          refine wp_loopK 36 (fun m Δ LL => ∃ (y : List UInt8) (p13 : Option Addr) (c13 : Nat), (y.length = m ∧ bare y = bare s ∧ y.length ≤ c13 ∧ Vw (row 5 1 (.slice (some ⟨b136, 0, none⟩) s.length c136) s.length (cel s)) (.slice p13 y.length c13) y.length (cel y)) ∧ Δ = [(13, .slice p13 y.length c13)] ∧ LL = [row 5 1 (.slice (some ⟨b136, 0, none⟩) s.length c136) s.length (cel s), row 9 1 (.slice p6 (nms xs xs.length).length c6) (nms xs xs.length).length (txs (nms xs xs.length)), own b10 (.cells (Pt.cs ⟨l[i].kind, l[i].n, s, xs, p5, c5⟩).toArray 40 (0, 0)), row 9 1 (.slice p5 xs.length c5) xs.length (txs xs)] ++ rd pr p3 c3 q1 ++ [V]) (m := s.length) (Has.cons (k := 0) rfl (Has.cons (k := 8) rfl (Has.cons (k := 9) rfl (Has.cons (k := 10) rfl (Has.cons (k := 11) rfl (Has.nil _)))))) (kept ⟨s, some ⟨b136, 0, none⟩, c136, ⟨rfl, rfl, hcs, Vw.row⟩, rfl, rfl⟩ (by repeat (first | exact Has.nil _ | refine Has.cons rfl ?_)) (by repeat (first | exact Has.nil _ | refine Has.cons rfl ?_)) (by repeat (first | exact SubH.nil _ | refine SubH.cons 0 rfl ?_ | refine SubH.cons 1 rfl ?_ | refine SubH.cons 2 rfl ?_ | refine SubH.cons 3 rfl ?_ | refine SubH.cons 4 rfl ?_ | refine SubH.cons 5 rfl ?_ | refine SubH.cons 6 rfl ?_ | refine SubH.cons 7 rfl ?_ | refine SubH.cons 8 rfl ?_ | refine SubH.cons 9 rfl ?_ | refine SubH.cons 10 rfl ?_ | refine SubH.cons 11 rfl ?_ | refine SubH.cons 12 rfl ?_ | refine SubH.cons 13 rfl ?_ | refine SubH.rown ?_))) ?_
          rintro m6 Δ LL ⟨y, p13, c13, ⟨hy, hb, hcap, hv⟩, rfl, rfl⟩
          simp only [List.cons_append, List.nil_append]
          refine wp_seq' ?_
          refine wp_seq' ?_
          refine wp_region' ?_
          refine ops_ro' rfl (ro_move rfl) rfl ?_
          refine ops_ro' rfl (ro_sliceLen Tryd.underlying28 rfl) rfl ?_
          refine ops_ro' rfl (ro_gtr rfl rfl rfl) rfl ?_
          refine ops_split rfl rfl rfl (fun hg140 => ?_) (fun hg140 => ?_)
          · replace hg140 := of_decide_eq_true hg140
            have h0 : 0 < y.length := by omega
            refine ops_know (fun w F s => vw_ptr (Vw.pick (H := [_, _, _, _, _, _, V]) 0 rfl hv) s (by omega)) ?_
            rintro ⟨b13, o13, rfl⟩
            refine ops_ro' rfl (ro_move rfl) rfl ?_
            refine ops_ro' rfl (ro_indexSlice sl28 rfl rfl rfl (by omega)) rfl ?_
            refine ops_ro' rfl (ro_load sc5 rfl (Rd.pick 0 rfl (Rd.of_n (vw_rdn hv) (j := 0) (by first | rfl | omega) (cel_get h0)))) rfl ?_
            refine ops_ro' rfl (ro_eql rfl rfl rfl) rfl ?_
            refine ops_ro' rfl (ro_pick rfl rfl) rfl ?_
            refine ops_nil ?_
            refine Then_normal ?_
            refine wp_cond' rfl (fun hc145 => ?_) (fun hc145 => ?_)
            · replace hc145 := of_decide_eq_true hc145
              have hz : y[0] = 0 := UInt8.toNat_inj.1 (by show y[0].toNat = 0; omega)
              refine wp_skip' ?_
              refine Then_normal ?_
              refine wp_block' ?_
              refine wp_region' ?_
              refine ops_ro' rfl (ro_move rfl) rfl ?_
              refine ops_eff' rfl (eff_sliceB 0 rfl sl28 rfl hv (bnd_of rfl rfl) rfl (by dsimp only; omega) (Nat.le_refl _) hcap) rfl ?_
              rintro _ _ ⟨p147, rfl, hv147, hn147, rfl⟩
              have hy1 : List.take (y.length - 1) (List.drop 1 y) = List.drop 1 y := List.take_of_length_le (by simp)
              rw [hy1] at hv147 ⊢
              refine ops_ro' rfl (ro_assign rfl) rfl ?_
              refine ops_nil ?_
              refine InBlock_normal ?_
              refine Then_normal ?_
              refine back (m6 - 1) (by omega) (kept ⟨y.drop 1, p147, c13 - 1, ⟨by rw [List.length_drop, hy], by rw [← hb, ← bare_drop h0 hz], by rw [List.length_drop]; omega, hv147⟩, rfl, rfl⟩ ?_ ?_ ?_)
              · exact (by repeat (first | exact Has.nil _ | refine Has.cons rfl ?_))
              · exact (by repeat (first | exact Has.nil _ | refine Has.cons rfl ?_))
              · exact SubH.refl _
            · replace hc145 := of_decide_eq_false hc145
              have hz : y[0] ≠ 0 := fun h => hc145 (by rw [h]; rfl)
              refine wp_exit' ?_
              refine Then_exit ?_
              refine Then_exit ?_
              refine InBlock_here ?_
              refine Then_normal ?_
              refine wp_seq' ?_
              have HB : bare s = y := by rw [← hb]; first | exact bare_stop0 h0 hz | exact bare_nil0 (by omega)
              rw [decs_cons hi (by omega)] at hh
              have hh2 : Here q1 (enc2 l[i].n s (nms xs xs.length) ++ ((l.take 20).drop (i + 1)).flatMap enc1) := by have h := hh; rw [enc1, show ps l[i] = s from hss, show px l[i] = xs from hxs] at h; exact h
              obtain ⟨q8, ⟨⟨t1, t2, t3, t4, t5, t6, t7, g1, g2, g3, g4, g5, g6, g7, g8⟩, hh8⟩⟩ := back_reads hh2 (by omega) hsl (nms_all _ _) hnj
              have k1 : t1.Good := by have h := R.good_get hg 1; rw [g1] at h; exact h
              have k2 : t2.Good := by have h := R.good_get k1 4; rw [g2] at h; exact h
              have k3 : t3.Good := by have h := R.good_get k2 8; rw [g3] at h; exact h
              have k4 : t4.Good := by have h := R.good_text k3 (s.length : Nat); rw [g4] at h; exact h
              have k5 : t5.Good := by have h := R.good_mp k4 201; rw [g5] at h; exact h
              have k6 : t6.Good := by have h := R.good_lst k5; rw [g6] at h; exact h
              have k7 : t7.Good := by have h := R.good_get k6 1; rw [g7] at h; exact h
              have k8 : q8.Good := by have h := R.good_take k7 (s.length : Nat); rw [g8] at h; exact h
              refine wp_draw 67 (by kernel_rfl) (Split.cons 0 rfl (Split.cons 1 rfl (Split.nil _))) ?_
              refine any_ro' (i := 0) (by kernel_rfl) rfl rfl (ro_move rfl) rfl (fun _ _ _ h => h) ?_
              refine any_ro' (i := 2) (by kernel_rfl) rfl rfl (ro_fieldAddr fa40_1 rfl) rfl (fun _ _ _ h => h) ?_
              refine any_ro' (i := 3) (by kernel_rfl) rfl rfl (ro_load sc38 rfl (Rd.pick 1 rfl (Rd.own rfl))) rfl (fun _ _ _ h => h) ?_
              refine any_ro' (i := 4) (by kernel_rfl) rfl rfl (ro_rem rfl rfl (by omega) (show ((l[i].n : Nat) : Int).tmod 256 = ((l[i].n % 256 : Nat) : Int) from by rw [Int.tmod_eq_emod_of_nonneg (by omega)]; omega)) rfl (fun _ _ _ h => h) ?_
              refine any_ro' (i := 5) (by kernel_rfl) rfl rfl (ro_conv Tryd.underlying38 Tryd.underlying3 rfl (wrap_i64_in (by omega) (by omega))) rfl (fun _ _ _ h => h) ?_
              refine any_eff' (i := 1) (by kernel_rfl) rfl rfl (eff_call Tryd.call25 rfl rfl (by repeat (first | exact Split.nil _ | apply Split.cons 0 rfl | apply Split.cons 1 rfl | apply Split.cons 2 rfl | apply Split.cons 3 rfl | apply Split.cons 4 rfl | apply Split.cons 5 rfl | apply Split.cons 6 rfl | apply Split.cons 7 rfl | apply Split.cons 8 rfl | apply Split.cons 9 rfl | apply Split.cons 10 rfl | apply Split.cons 11 rfl)) (rByte_spec pr p3 c3 q1 hg)) rfl ?_
              rintro _ H' ⟨_, ⟨rfl, rfl⟩, hH⟩
              simp only [List.cons_append, List.nil_append, List.eraseIdx_cons_zero, List.eraseIdx_cons_succ, List.set_cons_zero, List.set_cons_succ] at hH
              subst hH
              rw [g1]
              dsimp only
              refine any_ro' (i := 6) (by kernel_rfl) rfl rfl (ro_neq rfl rfl (decide_eq_false (by omega))) rfl (fun _ _ _ h => h) ?_
              refine any_ro' (i := 7) (by kernel_rfl) rfl rfl (ro_move (v := .bool false) rfl) rfl (fun _ _ _ h => h) ?_
              refine any_ro' (i := 8) (by kernel_rfl) rfl rfl (ro_move rfl) rfl (fun _ _ _ h => h) ?_
              refine any_ro' (i := 10) (by kernel_rfl) rfl rfl (ro_fieldAddr fa40_1 rfl) rfl (fun _ _ _ h => h) ?_
              refine any_ro' (i := 11) (by kernel_rfl) rfl rfl (ro_load sc38 rfl (Rd.pick 1 rfl (Rd.own rfl))) rfl (fun _ _ _ h => h) ?_
              refine any_ro' (i := 12) (by kernel_rfl) rfl rfl (ro_conv Tryd.underlying38 Tryd.underlying44 rfl (conv32 l[i].n)) rfl (fun _ _ _ h => h) ?_
              refine any_eff' (i := 9) (by kernel_rfl) rfl rfl (eff_call Tryd.call26 rfl rfl (by repeat (first | exact Split.nil _ | apply Split.cons 0 rfl | apply Split.cons 1 rfl | apply Split.cons 2 rfl | apply Split.cons 3 rfl | apply Split.cons 4 rfl | apply Split.cons 5 rfl | apply Split.cons 6 rfl | apply Split.cons 7 rfl | apply Split.cons 8 rfl | apply Split.cons 9 rfl | apply Split.cons 10 rfl | apply Split.cons 11 rfl)) (rU32_spec pr p3 c3 t1 k1.len k1.pos)) rfl ?_
              rintro _ H' ⟨_, ⟨rfl, rfl⟩, hH⟩
              simp only [List.cons_append, List.nil_append, List.eraseIdx_cons_zero, List.eraseIdx_cons_succ, List.set_cons_zero, List.set_cons_succ] at hH
              subst hH
              rw [g2]
              dsimp only
              refine any_ro' (i := 13) (by kernel_rfl) rfl rfl (ro_neq rfl rfl (decide_eq_false (by omega))) rfl (fun _ _ _ h => h) ?_
              refine any_ro' (i := 14) (by kernel_rfl) rfl rfl (ro_pick rfl rfl) rfl (fun _ _ _ h => h) ?_
              refine any_ro' (i := 15) (by kernel_rfl) rfl rfl (ro_move (v := .bool false) rfl) rfl (fun _ _ _ h => h) ?_
              refine any_ro' (i := 16) (by kernel_rfl) rfl rfl (ro_move rfl) rfl (fun _ _ _ h => h) ?_
              refine any_ro' (i := 18) (by kernel_rfl) rfl rfl (ro_fieldAddr fa40_1 rfl) rfl (fun _ _ _ h => h) ?_
              refine any_ro' (i := 19) (by kernel_rfl) rfl rfl (ro_load sc38 rfl (Rd.pick 1 rfl (Rd.own rfl))) rfl (fun _ _ _ h => h) ?_
              refine any_eff' (i := 17) (by kernel_rfl) rfl rfl (eff_call Tryd.call27 rfl rfl (by repeat (first | exact Split.nil _ | apply Split.cons 0 rfl | apply Split.cons 1 rfl | apply Split.cons 2 rfl | apply Split.cons 3 rfl | apply Split.cons 4 rfl | apply Split.cons 5 rfl | apply Split.cons 6 rfl | apply Split.cons 7 rfl | apply Split.cons 8 rfl | apply Split.cons 9 rfl | apply Split.cons 10 rfl | apply Split.cons 11 rfl)) (rU64_spec pr p3 c3 t2 k2.len k2.pos)) rfl ?_
              rintro _ H' ⟨_, ⟨rfl, rfl⟩, hH⟩
              simp only [List.cons_append, List.nil_append, List.eraseIdx_cons_zero, List.eraseIdx_cons_succ, List.set_cons_zero, List.set_cons_succ] at hH
              subst hH
              rw [g3]
              dsimp only
              refine any_ro' (i := 20) (by kernel_rfl) rfl rfl (ro_neq rfl rfl (decide_eq_false (by omega))) rfl (fun _ _ _ h => h) ?_
              refine any_ro' (i := 21) (by kernel_rfl) rfl rfl (ro_pick rfl rfl) rfl (fun _ _ _ h => h) ?_
              refine any_ro' (i := 22) (by kernel_rfl) rfl rfl (ro_move (v := .bool false) rfl) rfl (fun _ _ _ h => h) ?_
              refine any_ro' (i := 23) (by kernel_rfl) rfl rfl (ro_move rfl) rfl (fun _ _ _ h => h) ?_
              refine any_ro' (i := 24) (by kernel_rfl) rfl rfl (ro_fieldAddr fa40_2 rfl) rfl (fun _ _ _ h => h) ?_
              refine any_ro' (i := 25) (by kernel_rfl) rfl rfl (ro_load sc9 rfl (Rd.pick 1 rfl (Rd.own rfl))) rfl (fun _ _ _ h => h) ?_
              refine any_ro' (i := 26) (by kernel_rfl) rfl rfl (ro_lenS (t' := 0) Tryd.underlying9 rfl) rfl (fun _ _ _ h => h) ?_
              refine any_ro' (i := 28) (by kernel_rfl) rfl rfl (ro_fieldAddr fa40_2 rfl) rfl (fun _ _ _ h => h) ?_
              refine any_ro' (i := 29) (by kernel_rfl) rfl rfl (ro_load sc9 rfl (Rd.pick 1 rfl (Rd.own rfl))) rfl (fun _ _ _ h => h) ?_
              refine any_eff' (i := 27) (by kernel_rfl) rfl rfl (eff_call Tryd.call28 rfl rfl (by repeat (first | exact Split.nil _ | apply Split.cons 0 rfl | apply Split.cons 1 rfl | apply Split.cons 2 rfl | apply Split.cons 3 rfl | apply Split.cons 4 rfl | apply Split.cons 5 rfl | apply Split.cons 6 rfl | apply Split.cons 7 rfl | apply Split.cons 8 rfl | apply Split.cons 9 rfl | apply Split.cons 10 rfl | apply Split.cons 11 rfl)) (rText_spec pr p3 c3 t3 k3 (s.length : Nat) (by omega))) rfl ?_
              rintro _ H' ⟨_, ⟨rfl, rfl⟩, hH⟩
              simp only [List.cons_append, List.nil_append, List.eraseIdx_cons_zero, List.eraseIdx_cons_succ, List.set_cons_zero, List.set_cons_succ] at hH
              subst hH
              rw [g4]
              dsimp only
              refine any_ro' (i := 30) (by kernel_rfl) rfl rfl (ro_neqS rfl rfl (decide_eq_false (fun h => h rfl))) rfl (fun _ _ _ h => h) ?_
              refine any_ro' (i := 31) (by kernel_rfl) rfl rfl (ro_pick rfl rfl) rfl (fun _ _ _ h => h) ?_
              refine any_ro' (i := 32) (by kernel_rfl) rfl rfl (ro_move (v := .bool false) rfl) rfl (fun _ _ _ h => h) ?_
              refine any_ro' (i := 33) (by kernel_rfl) rfl rfl (ro_move rfl) rfl (fun _ _ _ h => h) ?_
              refine any_ro' (i := 36) (by kernel_rfl) rfl rfl (ro_move rfl) rfl (fun _ _ _ h => h) ?_
              refine any_ro' (i := 37) (by kernel_rfl) rfl rfl (ro_toStr Tryd.underlying28 Tryd.underlying5 Tryd.underlying9 rfl (Vw.pick 0 rfl hv) rfl) rfl (fun _ _ _ h => h) ?_
              refine any_eff' (i := 34) (by kernel_rfl) rfl rfl (eff_call Tryd.call29 rfl rfl (by repeat (first | exact Split.nil _ | apply Split.cons 0 rfl | apply Split.cons 1 rfl | apply Split.cons 2 rfl | apply Split.cons 3 rfl | apply Split.cons 4 rfl | apply Split.cons 5 rfl | apply Split.cons 6 rfl | apply Split.cons 7 rfl | apply Split.cons 8 rfl | apply Split.cons 9 rfl | apply Split.cons 10 rfl | apply Split.cons 11 rfl)) (rMpint_spec pr p3 c3 t4 k4 201 (by omega))) rfl ?_
              rintro _ H' ⟨_, ⟨pa, ca, rfl, rfl⟩, hH⟩
              simp only [List.cons_append, List.nil_append, List.eraseIdx_cons_zero, List.eraseIdx_cons_succ, List.set_cons_zero, List.set_cons_succ] at hH
              subst hH
              rw [g5]
              dsimp only
              rw [HB]
              refine any_eff' (i := 35) (by kernel_rfl) rfl rfl (eff_ro (ro_toStr Tryd.underlying28 Tryd.underlying5 Tryd.underlying9 rfl (Vw.pick 0 rfl Vw.row) rfl)) rfl ?_
              rintro _ _ ⟨rfl, rfl⟩
              refine any_ro' (i := 38) (by kernel_rfl) rfl rfl (ro_neqS rfl rfl (decide_eq_false (fun h => h rfl))) rfl (fun _ _ _ h => h) ?_
              refine any_ro' (i := 39) (by kernel_rfl) rfl rfl (ro_pick rfl rfl) rfl (fun _ _ _ h => h) ?_
              refine any_ro' (i := 40) (by kernel_rfl) rfl rfl (ro_move (v := .bool false) rfl) rfl (fun _ _ _ h => h) ?_
              refine any_ro' (i := 41) (by kernel_rfl) rfl rfl (ro_move rfl) rfl (fun _ _ _ h => h) ?_
              refine any_ro' (i := 43) (by kernel_rfl) rfl rfl (ro_move rfl) rfl (fun _ _ _ h => h) ?_
              refine any_eff' (i := 42) (by kernel_rfl) rfl rfl (eff_call Tryd.call13 rfl rfl (by repeat (first | exact Split.nil _ | apply Split.cons 0 rfl | apply Split.cons 1 rfl | apply Split.cons 2 rfl | apply Split.cons 3 rfl | apply Split.cons 4 rfl | apply Split.cons 5 rfl | apply Split.cons 6 rfl | apply Split.cons 7 rfl | apply Split.cons 8 rfl | apply Split.cons 9 rfl | apply Split.cons 10 rfl | apply Split.cons 11 rfl)) (rNames_spec hM pr p3 c3 t5 k5)) rfl ?_
              rintro _ H' ⟨_, ⟨pb, cb, rfl, rfl⟩, hH⟩
              simp only [List.cons_append, List.nil_append, List.eraseIdx_cons_zero, List.eraseIdx_cons_succ, List.set_cons_zero, List.set_cons_succ] at hH
              subst hH
              rw [g6]
              dsimp only
              refine any_eff' (i := 44) (by kernel_rfl) rfl rfl (eff_callM (Pre := []) Tryd.call30 rfl rfl (Split.nil _) (ktexts_spec _ (nms xs xs.length) (nms xs xs.length) _ _ _ _ (by first | exact (Vw.pick 0 rfl hv) | exact (Vw.pick 1 rfl hv) | exact (Vw.pick 2 rfl hv) | exact (Vw.pick 3 rfl hv) | exact (Vw.pick 4 rfl hv) | exact (Vw.pick 5 rfl hv) | exact (Vw.pick 6 rfl hv) | exact (Vw.pick 7 rfl hv) | exact (Vw.pick 8 rfl hv) | exact (Vw.pick 9 rfl hv) | exact (Vw.pick 10 rfl hv) | exact (Vw.pick 11 rfl hv) | exact Vw.pick 0 rfl Vw.row | exact Vw.pick 1 rfl Vw.row | exact Vw.pick 2 rfl Vw.row | exact Vw.pick 3 rfl Vw.row | exact Vw.pick 4 rfl Vw.row | exact Vw.pick 5 rfl Vw.row | exact Vw.pick 6 rfl Vw.row | exact Vw.pick 7 rfl Vw.row | exact Vw.pick 8 rfl Vw.row | exact Vw.pick 9 rfl Vw.row | exact Vw.pick 10 rfl Vw.row | exact Vw.pick 11 rfl Vw.row | exact Vw.nil _ | exact Vw.empty _ _) (by first | exact (Vw.pick 0 rfl hv) | exact (Vw.pick 1 rfl hv) | exact (Vw.pick 2 rfl hv) | exact (Vw.pick 3 rfl hv) | exact (Vw.pick 4 rfl hv) | exact (Vw.pick 5 rfl hv) | exact (Vw.pick 6 rfl hv) | exact (Vw.pick 7 rfl hv) | exact (Vw.pick 8 rfl hv) | exact (Vw.pick 9 rfl hv) | exact (Vw.pick 10 rfl hv) | exact (Vw.pick 11 rfl hv) | exact Vw.pick 0 rfl Vw.row | exact Vw.pick 1 rfl Vw.row | exact Vw.pick 2 rfl Vw.row | exact Vw.pick 3 rfl Vw.row | exact Vw.pick 4 rfl Vw.row | exact Vw.pick 5 rfl Vw.row | exact Vw.pick 6 rfl Vw.row | exact Vw.pick 7 rfl Vw.row | exact Vw.pick 8 rfl Vw.row | exact Vw.pick 9 rfl Vw.row | exact Vw.pick 10 rfl Vw.row | exact Vw.pick 11 rfl Vw.row | exact Vw.nil _ | exact Vw.empty _ _) (by omega))) rfl ?_
              rintro _ H' ⟨_, ⟨rfl, rfl⟩, hH⟩
              simp only [List.cons_append, List.nil_append, List.eraseIdx_cons_zero, List.eraseIdx_cons_succ, List.set_cons_zero, List.set_cons_succ] at hH
              subst hH
              rw [decide_eq_true rfl]
              refine any_ro' (i := 45) (by kernel_rfl) rfl rfl (ro_not rfl rfl) rfl (fun _ _ _ h => h) ?_
              refine any_ro' (i := 46) (by kernel_rfl) rfl rfl (ro_pick rfl rfl) rfl (fun _ _ _ h => h) ?_
              refine any_ro' (i := 47) (by kernel_rfl) rfl rfl (ro_move (v := .bool false) rfl) rfl (fun _ _ _ h => h) ?_
              refine any_ro' (i := 48) (by kernel_rfl) rfl rfl (ro_move rfl) rfl (fun _ _ _ h => h) ?_
              refine any_ro' (i := 50) (by kernel_rfl) rfl rfl (ro_fieldAddr fa40_1 rfl) rfl (fun _ _ _ h => h) ?_
              refine any_ro' (i := 51) (by kernel_rfl) rfl rfl (ro_load sc38 rfl (Rd.pick 1 rfl (Rd.own rfl))) rfl (fun _ _ _ h => h) ?_
              refine any_ro' (i := 52) (by kernel_rfl) rfl rfl (ro_rem rfl rfl (by omega) (show ((l[i].n : Nat) : Int).tmod 2 = ((l[i].n % 2 : Nat) : Int) from by rw [Int.tmod_eq_emod_of_nonneg (by omega)]; omega)) rfl (fun _ _ _ h => h) ?_
              refine any_ro' (i := 53) (by kernel_rfl) rfl rfl (ro_eql rfl rfl rfl) rfl (fun _ _ _ h => h) ?_
              refine any_eff' (i := 49) (by kernel_rfl) rfl rfl (eff_call Tryd.call31 rfl rfl (by repeat (first | exact Split.nil _ | apply Split.cons 0 rfl | apply Split.cons 1 rfl | apply Split.cons 2 rfl | apply Split.cons 3 rfl | apply Split.cons 4 rfl | apply Split.cons 5 rfl | apply Split.cons 6 rfl | apply Split.cons 7 rfl | apply Split.cons 8 rfl | apply Split.cons 9 rfl | apply Split.cons 10 rfl | apply Split.cons 11 rfl)) (rBool_spec pr p3 c3 t6 k6)) rfl ?_
              rintro _ H' ⟨_, ⟨rfl, rfl⟩, hH⟩
              simp only [List.cons_append, List.nil_append, List.eraseIdx_cons_zero, List.eraseIdx_cons_succ, List.set_cons_zero, List.set_cons_succ] at hH
              subst hH
              rw [g7]
              dsimp only
              rw [bool_in]
              refine any_ro' (i := 54) (by kernel_rfl) rfl rfl (ro_neq_bool Tryd.underlying4 rfl rfl (c := false) (by simp)) rfl (fun _ _ _ h => h) ?_
              refine any_ro' (i := 55) (by kernel_rfl) rfl rfl (ro_pick rfl rfl) rfl (fun _ _ _ h => h) ?_
              refine any_ro' (i := 56) (by kernel_rfl) rfl rfl (ro_move (v := .bool false) rfl) rfl (fun _ _ _ h => h) ?_
              refine any_ro' (i := 57) (by kernel_rfl) rfl rfl (ro_move rfl) rfl (fun _ _ _ h => h) ?_
              refine any_ro' (i := 58) (by kernel_rfl) rfl rfl (ro_fieldAddr fa40_2 rfl) rfl (fun _ _ _ h => h) ?_
              refine any_ro' (i := 59) (by kernel_rfl) rfl rfl (ro_load sc9 rfl (Rd.pick 1 rfl (Rd.own rfl))) rfl (fun _ _ _ h => h) ?_
              refine any_ro' (i := 60) (by kernel_rfl) rfl rfl (ro_lenS (t' := 0) Tryd.underlying9 rfl) rfl (fun _ _ _ h => h) ?_
              refine any_ro' (i := 63) (by kernel_rfl) rfl rfl (ro_fieldAddr fa40_2 rfl) rfl (fun _ _ _ h => h) ?_
              refine any_ro' (i := 64) (by kernel_rfl) rfl rfl (ro_load sc9 rfl (Rd.pick 1 rfl (Rd.own rfl))) rfl (fun _ _ _ h => h) ?_
              refine any_eff' (i := 61) (by kernel_rfl) rfl rfl (eff_call Tryd.call32 rfl rfl (by repeat (first | exact Split.nil _ | apply Split.cons 0 rfl | apply Split.cons 1 rfl | apply Split.cons 2 rfl | apply Split.cons 3 rfl | apply Split.cons 4 rfl | apply Split.cons 5 rfl | apply Split.cons 6 rfl | apply Split.cons 7 rfl | apply Split.cons 8 rfl | apply Split.cons 9 rfl | apply Split.cons 10 rfl | apply Split.cons 11 rfl)) (rRaw_spec pr p3 c3 t7 k7 (s.length : Nat))) rfl ?_
              rintro _ H' ⟨_, ⟨_, ⟨pc, cc, rfl, _, rfl⟩, rfl⟩, hH⟩
              simp only [List.cons_append, List.nil_append, List.eraseIdx_cons_zero, List.eraseIdx_cons_succ, List.set_cons_zero, List.set_cons_succ] at hH
              subst hH
              rw [g8]
              dsimp only
              refine any_eff' (i := 62) (by kernel_rfl) rfl rfl (eff_ro (ro_toStr Tryd.underlying28 Tryd.underlying5 Tryd.underlying9 rfl (Vw.pick 0 rfl Vw.row) rfl)) rfl ?_
              rintro _ _ ⟨rfl, rfl⟩
              refine any_ro' (i := 65) (by kernel_rfl) rfl rfl (ro_neqS rfl rfl (decide_eq_false (fun h => h rfl))) rfl (fun _ _ _ h => h) ?_
              refine any_ro' (i := 66) (by kernel_rfl) rfl rfl (ro_pick rfl rfl) rfl (fun _ _ _ h => h) ?_
              refine any_done (by kernel_rfl) ?_
              refine Then_normal ?_
              refine wp_condF rfl ?_
              refine wp_skip' ?_
              refine InBlock_normal ?_
              refine Then_normal ?_
              refine wp_region' ?_
              refine ops_ro' rfl (ro_move rfl) rfl ?_
              refine ops_ro' rfl (ro_add rfl rfl (wrap_inc (by omega))) rfl ?_
              refine ops_ro' rfl (ro_assign rfl) rfl ?_
              refine ops_nil ?_
              refine Then_normal ?_
              refine back (m4 - 1) (by omega) (kept ⟨i + 1, q8, ⟨by omega, by omega, k8, hh8⟩, rfl, rfl⟩ ?_ ?_ ?_)
              · exact (by repeat (first | exact Has.nil _ | refine Has.cons rfl ?_))
              · exact (by repeat (first | exact Has.nil _ | refine Has.cons rfl ?_))
              · exact (SubH.cons 3 rfl (SubH.cons 3 rfl (SubH.cons 4 rfl (SubH.nil _))))
          · replace hg140 := of_decide_eq_false hg140
            refine ops_skip' rfl rfl ?_
            refine ops_skip' rfl rfl ?_
            refine ops_skip' rfl rfl ?_
            refine ops_skip' rfl rfl ?_
            refine ops_ro' rfl (ro_pick rfl rfl) rfl ?_
            refine ops_nil ?_
            refine Then_normal ?_
            refine wp_condF rfl ?_
            refine wp_exit' ?_
            refine Then_exit ?_
            refine Then_exit ?_
            refine InBlock_here ?_
            refine Then_normal ?_
            refine wp_seq' ?_
            have HB : bare s = y := by rw [← hb]; first | exact bare_stop0 h0 hz | exact bare_nil0 (by omega)
            rw [decs_cons hi (by omega)] at hh
            have hh2 : Here q1 (enc2 l[i].n s (nms xs xs.length) ++ ((l.take 20).drop (i + 1)).flatMap enc1) := by have h := hh; rw [enc1, show ps l[i] = s from hss, show px l[i] = xs from hxs] at h; exact h
            obtain ⟨q8, ⟨⟨t1, t2, t3, t4, t5, t6, t7, g1, g2, g3, g4, g5, g6, g7, g8⟩, hh8⟩⟩ := back_reads hh2 (by omega) hsl (nms_all _ _) hnj
            have k1 : t1.Good := by have h := R.good_get hg 1; rw [g1] at h; exact h
            have k2 : t2.Good := by have h := R.good_get k1 4; rw [g2] at h; exact h
            have k3 : t3.Good := by have h := R.good_get k2 8; rw [g3] at h; exact h
            have k4 : t4.Good := by have h := R.good_text k3 (s.length : Nat); rw [g4] at h; exact h
            have k5 : t5.Good := by have h := R.good_mp k4 201; rw [g5] at h; exact h
            have k6 : t6.Good := by have h := R.good_lst k5; rw [g6] at h; exact h
            have k7 : t7.Good := by have h := R.good_get k6 1; rw [g7] at h; exact h
            have k8 : q8.Good := by have h := R.good_take k7 (s.length : Nat); rw [g8] at h; exact h
            refine wp_draw 67 (by kernel_rfl) (Split.cons 0 rfl (Split.cons 1 rfl (Split.nil _))) ?_
            refine any_ro' (i := 0) (by kernel_rfl) rfl rfl (ro_move rfl) rfl (fun _ _ _ h => h) ?_
            refine any_ro' (i := 2) (by kernel_rfl) rfl rfl (ro_fieldAddr fa40_1 rfl) rfl (fun _ _ _ h => h) ?_
            refine any_ro' (i := 3) (by kernel_rfl) rfl rfl (ro_load sc38 rfl (Rd.pick 1 rfl (Rd.own rfl))) rfl (fun _ _ _ h => h) ?_
            refine any_ro' (i := 4) (by kernel_rfl) rfl rfl (ro_rem rfl rfl (by omega) (show ((l[i].n : Nat) : Int).tmod 256 = ((l[i].n % 256 : Nat) : Int) from by rw [Int.tmod_eq_emod_of_nonneg (by omega)]; omega)) rfl (fun _ _ _ h => h) ?_
            refine any_ro' (i := 5) (by kernel_rfl) rfl rfl (ro_conv Tryd.underlying38 Tryd.underlying3 rfl (wrap_i64_in (by omega) (by omega))) rfl (fun _ _ _ h => h) ?_
            refine any_eff' (i := 1) (by kernel_rfl) rfl rfl (eff_call Tryd.call25 rfl rfl (by repeat (first | exact Split.nil _ | apply Split.cons 0 rfl | apply Split.cons 1 rfl | apply Split.cons 2 rfl | apply Split.cons 3 rfl | apply Split.cons 4 rfl | apply Split.cons 5 rfl | apply Split.cons 6 rfl | apply Split.cons 7 rfl | apply Split.cons 8 rfl | apply Split.cons 9 rfl | apply Split.cons 10 rfl | apply Split.cons 11 rfl)) (rByte_spec pr p3 c3 q1 hg)) rfl ?_
            rintro _ H' ⟨_, ⟨rfl, rfl⟩, hH⟩
            simp only [List.cons_append, List.nil_append, List.eraseIdx_cons_zero, List.eraseIdx_cons_succ, List.set_cons_zero, List.set_cons_succ] at hH
            subst hH
            rw [g1]
            dsimp only
            refine any_ro' (i := 6) (by kernel_rfl) rfl rfl (ro_neq rfl rfl (decide_eq_false (by omega))) rfl (fun _ _ _ h => h) ?_
            refine any_ro' (i := 7) (by kernel_rfl) rfl rfl (ro_move (v := .bool false) rfl) rfl (fun _ _ _ h => h) ?_
            refine any_ro' (i := 8) (by kernel_rfl) rfl rfl (ro_move rfl) rfl (fun _ _ _ h => h) ?_
            refine any_ro' (i := 10) (by kernel_rfl) rfl rfl (ro_fieldAddr fa40_1 rfl) rfl (fun _ _ _ h => h) ?_
            refine any_ro' (i := 11) (by kernel_rfl) rfl rfl (ro_load sc38 rfl (Rd.pick 1 rfl (Rd.own rfl))) rfl (fun _ _ _ h => h) ?_
            refine any_ro' (i := 12) (by kernel_rfl) rfl rfl (ro_conv Tryd.underlying38 Tryd.underlying44 rfl (conv32 l[i].n)) rfl (fun _ _ _ h => h) ?_
            refine any_eff' (i := 9) (by kernel_rfl) rfl rfl (eff_call Tryd.call26 rfl rfl (by repeat (first | exact Split.nil _ | apply Split.cons 0 rfl | apply Split.cons 1 rfl | apply Split.cons 2 rfl | apply Split.cons 3 rfl | apply Split.cons 4 rfl | apply Split.cons 5 rfl | apply Split.cons 6 rfl | apply Split.cons 7 rfl | apply Split.cons 8 rfl | apply Split.cons 9 rfl | apply Split.cons 10 rfl | apply Split.cons 11 rfl)) (rU32_spec pr p3 c3 t1 k1.len k1.pos)) rfl ?_
            rintro _ H' ⟨_, ⟨rfl, rfl⟩, hH⟩
            simp only [List.cons_append, List.nil_append, List.eraseIdx_cons_zero, List.eraseIdx_cons_succ, List.set_cons_zero, List.set_cons_succ] at hH
            subst hH
            rw [g2]
            dsimp only
            refine any_ro' (i := 13) (by kernel_rfl) rfl rfl (ro_neq rfl rfl (decide_eq_false (by omega))) rfl (fun _ _ _ h => h) ?_
            refine any_ro' (i := 14) (by kernel_rfl) rfl rfl (ro_pick rfl rfl) rfl (fun _ _ _ h => h) ?_
            refine any_ro' (i := 15) (by kernel_rfl) rfl rfl (ro_move (v := .bool false) rfl) rfl (fun _ _ _ h => h) ?_
            refine any_ro' (i := 16) (by kernel_rfl) rfl rfl (ro_move rfl) rfl (fun _ _ _ h => h) ?_
            refine any_ro' (i := 18) (by kernel_rfl) rfl rfl (ro_fieldAddr fa40_1 rfl) rfl (fun _ _ _ h => h) ?_
            refine any_ro' (i := 19) (by kernel_rfl) rfl rfl (ro_load sc38 rfl (Rd.pick 1 rfl (Rd.own rfl))) rfl (fun _ _ _ h => h) ?_
            refine any_eff' (i := 17) (by kernel_rfl) rfl rfl (eff_call Tryd.call27 rfl rfl (by repeat (first | exact Split.nil _ | apply Split.cons 0 rfl | apply Split.cons 1 rfl | apply Split.cons 2 rfl | apply Split.cons 3 rfl | apply Split.cons 4 rfl | apply Split.cons 5 rfl | apply Split.cons 6 rfl | apply Split.cons 7 rfl | apply Split.cons 8 rfl | apply Split.cons 9 rfl | apply Split.cons 10 rfl | apply Split.cons 11 rfl)) (rU64_spec pr p3 c3 t2 k2.len k2.pos)) rfl ?_
            rintro _ H' ⟨_, ⟨rfl, rfl⟩, hH⟩
            simp only [List.cons_append, List.nil_append, List.eraseIdx_cons_zero, List.eraseIdx_cons_succ, List.set_cons_zero, List.set_cons_succ] at hH
            subst hH
            rw [g3]
            dsimp only
            refine any_ro' (i := 20) (by kernel_rfl) rfl rfl (ro_neq rfl rfl (decide_eq_false (by omega))) rfl (fun _ _ _ h => h) ?_
            refine any_ro' (i := 21) (by kernel_rfl) rfl rfl (ro_pick rfl rfl) rfl (fun _ _ _ h => h) ?_
            refine any_ro' (i := 22) (by kernel_rfl) rfl rfl (ro_move (v := .bool false) rfl) rfl (fun _ _ _ h => h) ?_
            refine any_ro' (i := 23) (by kernel_rfl) rfl rfl (ro_move rfl) rfl (fun _ _ _ h => h) ?_
            refine any_ro' (i := 24) (by kernel_rfl) rfl rfl (ro_fieldAddr fa40_2 rfl) rfl (fun _ _ _ h => h) ?_
            refine any_ro' (i := 25) (by kernel_rfl) rfl rfl (ro_load sc9 rfl (Rd.pick 1 rfl (Rd.own rfl))) rfl (fun _ _ _ h => h) ?_
            refine any_ro' (i := 26) (by kernel_rfl) rfl rfl (ro_lenS (t' := 0) Tryd.underlying9 rfl) rfl (fun _ _ _ h => h) ?_
            refine any_ro' (i := 28) (by kernel_rfl) rfl rfl (ro_fieldAddr fa40_2 rfl) rfl (fun _ _ _ h => h) ?_
            refine any_ro' (i := 29) (by kernel_rfl) rfl rfl (ro_load sc9 rfl (Rd.pick 1 rfl (Rd.own rfl))) rfl (fun _ _ _ h => h) ?_
            refine any_eff' (i := 27) (by kernel_rfl) rfl rfl (eff_call Tryd.call28 rfl rfl (by repeat (first | exact Split.nil _ | apply Split.cons 0 rfl | apply Split.cons 1 rfl | apply Split.cons 2 rfl | apply Split.cons 3 rfl | apply Split.cons 4 rfl | apply Split.cons 5 rfl | apply Split.cons 6 rfl | apply Split.cons 7 rfl | apply Split.cons 8 rfl | apply Split.cons 9 rfl | apply Split.cons 10 rfl | apply Split.cons 11 rfl)) (rText_spec pr p3 c3 t3 k3 (s.length : Nat) (by omega))) rfl ?_
            rintro _ H' ⟨_, ⟨rfl, rfl⟩, hH⟩
            simp only [List.cons_append, List.nil_append, List.eraseIdx_cons_zero, List.eraseIdx_cons_succ, List.set_cons_zero, List.set_cons_succ] at hH
            subst hH
            rw [g4]
            dsimp only
            refine any_ro' (i := 30) (by kernel_rfl) rfl rfl (ro_neqS rfl rfl (decide_eq_false (fun h => h rfl))) rfl (fun _ _ _ h => h) ?_
            refine any_ro' (i := 31) (by kernel_rfl) rfl rfl (ro_pick rfl rfl) rfl (fun _ _ _ h => h) ?_
            refine any_ro' (i := 32) (by kernel_rfl) rfl rfl (ro_move (v := .bool false) rfl) rfl (fun _ _ _ h => h) ?_
            refine any_ro' (i := 33) (by kernel_rfl) rfl rfl (ro_move rfl) rfl (fun _ _ _ h => h) ?_
            refine any_ro' (i := 36) (by kernel_rfl) rfl rfl (ro_move rfl) rfl (fun _ _ _ h => h) ?_
            refine any_ro' (i := 37) (by kernel_rfl) rfl rfl (ro_toStr Tryd.underlying28 Tryd.underlying5 Tryd.underlying9 rfl (Vw.pick 0 rfl hv) rfl) rfl (fun _ _ _ h => h) ?_
            refine any_eff' (i := 34) (by kernel_rfl) rfl rfl (eff_call Tryd.call29 rfl rfl (by repeat (first | exact Split.nil _ | apply Split.cons 0 rfl | apply Split.cons 1 rfl | apply Split.cons 2 rfl | apply Split.cons 3 rfl | apply Split.cons 4 rfl | apply Split.cons 5 rfl | apply Split.cons 6 rfl | apply Split.cons 7 rfl | apply Split.cons 8 rfl | apply Split.cons 9 rfl | apply Split.cons 10 rfl | apply Split.cons 11 rfl)) (rMpint_spec pr p3 c3 t4 k4 201 (by omega))) rfl ?_
            rintro _ H' ⟨_, ⟨pa, ca, rfl, rfl⟩, hH⟩
            simp only [List.cons_append, List.nil_append, List.eraseIdx_cons_zero, List.eraseIdx_cons_succ, List.set_cons_zero, List.set_cons_succ] at hH
            subst hH
            rw [g5]
            dsimp only
            rw [HB]
            refine any_eff' (i := 35) (by kernel_rfl) rfl rfl (eff_ro (ro_toStr Tryd.underlying28 Tryd.underlying5 Tryd.underlying9 rfl (Vw.pick 0 rfl Vw.row) rfl)) rfl ?_
            rintro _ _ ⟨rfl, rfl⟩
            refine any_ro' (i := 38) (by kernel_rfl) rfl rfl (ro_neqS rfl rfl (decide_eq_false (fun h => h rfl))) rfl (fun _ _ _ h => h) ?_
            refine any_ro' (i := 39) (by kernel_rfl) rfl rfl (ro_pick rfl rfl) rfl (fun _ _ _ h => h) ?_
            refine any_ro' (i := 40) (by kernel_rfl) rfl rfl (ro_move (v := .bool false) rfl) rfl (fun _ _ _ h => h) ?_
            refine any_ro' (i := 41) (by kernel_rfl) rfl rfl (ro_move rfl) rfl (fun _ _ _ h => h) ?_
            refine any_ro' (i := 43) (by kernel_rfl) rfl rfl (ro_move rfl) rfl (fun _ _ _ h => h) ?_
            refine any_eff' (i := 42) (by kernel_rfl) rfl rfl (eff_call Tryd.call13 rfl rfl (by repeat (first | exact Split.nil _ | apply Split.cons 0 rfl | apply Split.cons 1 rfl | apply Split.cons 2 rfl | apply Split.cons 3 rfl | apply Split.cons 4 rfl | apply Split.cons 5 rfl | apply Split.cons 6 rfl | apply Split.cons 7 rfl | apply Split.cons 8 rfl | apply Split.cons 9 rfl | apply Split.cons 10 rfl | apply Split.cons 11 rfl)) (rNames_spec hM pr p3 c3 t5 k5)) rfl ?_
            rintro _ H' ⟨_, ⟨pb, cb, rfl, rfl⟩, hH⟩
            simp only [List.cons_append, List.nil_append, List.eraseIdx_cons_zero, List.eraseIdx_cons_succ, List.set_cons_zero, List.set_cons_succ] at hH
            subst hH
            rw [g6]
            dsimp only
            refine any_eff' (i := 44) (by kernel_rfl) rfl rfl (eff_callM (Pre := []) Tryd.call30 rfl rfl (Split.nil _) (ktexts_spec _ (nms xs xs.length) (nms xs xs.length) _ _ _ _ (by first | exact (Vw.pick 0 rfl hv) | exact (Vw.pick 1 rfl hv) | exact (Vw.pick 2 rfl hv) | exact (Vw.pick 3 rfl hv) | exact (Vw.pick 4 rfl hv) | exact (Vw.pick 5 rfl hv) | exact (Vw.pick 6 rfl hv) | exact (Vw.pick 7 rfl hv) | exact (Vw.pick 8 rfl hv) | exact (Vw.pick 9 rfl hv) | exact (Vw.pick 10 rfl hv) | exact (Vw.pick 11 rfl hv) | exact Vw.pick 0 rfl Vw.row | exact Vw.pick 1 rfl Vw.row | exact Vw.pick 2 rfl Vw.row | exact Vw.pick 3 rfl Vw.row | exact Vw.pick 4 rfl Vw.row | exact Vw.pick 5 rfl Vw.row | exact Vw.pick 6 rfl Vw.row | exact Vw.pick 7 rfl Vw.row | exact Vw.pick 8 rfl Vw.row | exact Vw.pick 9 rfl Vw.row | exact Vw.pick 10 rfl Vw.row | exact Vw.pick 11 rfl Vw.row | exact Vw.nil _ | exact Vw.empty _ _) (by first | exact (Vw.pick 0 rfl hv) | exact (Vw.pick 1 rfl hv) | exact (Vw.pick 2 rfl hv) | exact (Vw.pick 3 rfl hv) | exact (Vw.pick 4 rfl hv) | exact (Vw.pick 5 rfl hv) | exact (Vw.pick 6 rfl hv) | exact (Vw.pick 7 rfl hv) | exact (Vw.pick 8 rfl hv) | exact (Vw.pick 9 rfl hv) | exact (Vw.pick 10 rfl hv) | exact (Vw.pick 11 rfl hv) | exact Vw.pick 0 rfl Vw.row | exact Vw.pick 1 rfl Vw.row | exact Vw.pick 2 rfl Vw.row | exact Vw.pick 3 rfl Vw.row | exact Vw.pick 4 rfl Vw.row | exact Vw.pick 5 rfl Vw.row | exact Vw.pick 6 rfl Vw.row | exact Vw.pick 7 rfl Vw.row | exact Vw.pick 8 rfl Vw.row | exact Vw.pick 9 rfl Vw.row | exact Vw.pick 10 rfl Vw.row | exact Vw.pick 11 rfl Vw.row | exact Vw.nil _ | exact Vw.empty _ _) (by omega))) rfl ?_
            rintro _ H' ⟨_, ⟨rfl, rfl⟩, hH⟩
            simp only [List.cons_append, List.nil_append, List.eraseIdx_cons_zero, List.eraseIdx_cons_succ, List.set_cons_zero, List.set_cons_succ] at hH
            subst hH
            rw [decide_eq_true rfl]
            refine any_ro' (i := 45) (by kernel_rfl) rfl rfl (ro_not rfl rfl) rfl (fun _ _ _ h => h) ?_
            refine any_ro' (i := 46) (by kernel_rfl) rfl rfl (ro_pick rfl rfl) rfl (fun _ _ _ h => h) ?_
            refine any_ro' (i := 47) (by kernel_rfl) rfl rfl (ro_move (v := .bool false) rfl) rfl (fun _ _ _ h => h) ?_
            refine any_ro' (i := 48) (by kernel_rfl) rfl rfl (ro_move rfl) rfl (fun _ _ _ h => h) ?_
            refine any_ro' (i := 50) (by kernel_rfl) rfl rfl (ro_fieldAddr fa40_1 rfl) rfl (fun _ _ _ h => h) ?_
            refine any_ro' (i := 51) (by kernel_rfl) rfl rfl (ro_load sc38 rfl (Rd.pick 1 rfl (Rd.own rfl))) rfl (fun _ _ _ h => h) ?_
            refine any_ro' (i := 52) (by kernel_rfl) rfl rfl (ro_rem rfl rfl (by omega) (show ((l[i].n : Nat) : Int).tmod 2 = ((l[i].n % 2 : Nat) : Int) from by rw [Int.tmod_eq_emod_of_nonneg (by omega)]; omega)) rfl (fun _ _ _ h => h) ?_
            refine any_ro' (i := 53) (by kernel_rfl) rfl rfl (ro_eql rfl rfl rfl) rfl (fun _ _ _ h => h) ?_
            refine any_eff' (i := 49) (by kernel_rfl) rfl rfl (eff_call Tryd.call31 rfl rfl (by repeat (first | exact Split.nil _ | apply Split.cons 0 rfl | apply Split.cons 1 rfl | apply Split.cons 2 rfl | apply Split.cons 3 rfl | apply Split.cons 4 rfl | apply Split.cons 5 rfl | apply Split.cons 6 rfl | apply Split.cons 7 rfl | apply Split.cons 8 rfl | apply Split.cons 9 rfl | apply Split.cons 10 rfl | apply Split.cons 11 rfl)) (rBool_spec pr p3 c3 t6 k6)) rfl ?_
            rintro _ H' ⟨_, ⟨rfl, rfl⟩, hH⟩
            simp only [List.cons_append, List.nil_append, List.eraseIdx_cons_zero, List.eraseIdx_cons_succ, List.set_cons_zero, List.set_cons_succ] at hH
            subst hH
            rw [g7]
            dsimp only
            rw [bool_in]
            refine any_ro' (i := 54) (by kernel_rfl) rfl rfl (ro_neq_bool Tryd.underlying4 rfl rfl (c := false) (by simp)) rfl (fun _ _ _ h => h) ?_
            refine any_ro' (i := 55) (by kernel_rfl) rfl rfl (ro_pick rfl rfl) rfl (fun _ _ _ h => h) ?_
            refine any_ro' (i := 56) (by kernel_rfl) rfl rfl (ro_move (v := .bool false) rfl) rfl (fun _ _ _ h => h) ?_
            refine any_ro' (i := 57) (by kernel_rfl) rfl rfl (ro_move rfl) rfl (fun _ _ _ h => h) ?_
            refine any_ro' (i := 58) (by kernel_rfl) rfl rfl (ro_fieldAddr fa40_2 rfl) rfl (fun _ _ _ h => h) ?_
            refine any_ro' (i := 59) (by kernel_rfl) rfl rfl (ro_load sc9 rfl (Rd.pick 1 rfl (Rd.own rfl))) rfl (fun _ _ _ h => h) ?_
            refine any_ro' (i := 60) (by kernel_rfl) rfl rfl (ro_lenS (t' := 0) Tryd.underlying9 rfl) rfl (fun _ _ _ h => h) ?_
            refine any_ro' (i := 63) (by kernel_rfl) rfl rfl (ro_fieldAddr fa40_2 rfl) rfl (fun _ _ _ h => h) ?_
            refine any_ro' (i := 64) (by kernel_rfl) rfl rfl (ro_load sc9 rfl (Rd.pick 1 rfl (Rd.own rfl))) rfl (fun _ _ _ h => h) ?_
            refine any_eff' (i := 61) (by kernel_rfl) rfl rfl (eff_call Tryd.call32 rfl rfl (by repeat (first | exact Split.nil _ | apply Split.cons 0 rfl | apply Split.cons 1 rfl | apply Split.cons 2 rfl | apply Split.cons 3 rfl | apply Split.cons 4 rfl | apply Split.cons 5 rfl | apply Split.cons 6 rfl | apply Split.cons 7 rfl | apply Split.cons 8 rfl | apply Split.cons 9 rfl | apply Split.cons 10 rfl | apply Split.cons 11 rfl)) (rRaw_spec pr p3 c3 t7 k7 (s.length : Nat))) rfl ?_
            rintro _ H' ⟨_, ⟨_, ⟨pc, cc, rfl, _, rfl⟩, rfl⟩, hH⟩
            simp only [List.cons_append, List.nil_append, List.eraseIdx_cons_zero, List.eraseIdx_cons_succ, List.set_cons_zero, List.set_cons_succ] at hH
            subst hH
            rw [g8]
            dsimp only
            refine any_eff' (i := 62) (by kernel_rfl) rfl rfl (eff_ro (ro_toStr Tryd.underlying28 Tryd.underlying5 Tryd.underlying9 rfl (Vw.pick 0 rfl Vw.row) rfl)) rfl ?_
            rintro _ _ ⟨rfl, rfl⟩
            refine any_ro' (i := 65) (by kernel_rfl) rfl rfl (ro_neqS rfl rfl (decide_eq_false (fun h => h rfl))) rfl (fun _ _ _ h => h) ?_
            refine any_ro' (i := 66) (by kernel_rfl) rfl rfl (ro_pick rfl rfl) rfl (fun _ _ _ h => h) ?_
            refine any_done (by kernel_rfl) ?_
            refine Then_normal ?_
            refine wp_condF rfl ?_
            refine wp_skip' ?_
            refine InBlock_normal ?_
            refine Then_normal ?_
            refine wp_region' ?_
            refine ops_ro' rfl (ro_move rfl) rfl ?_
            refine ops_ro' rfl (ro_add rfl rfl (wrap_inc (by omega))) rfl ?_
            refine ops_ro' rfl (ro_assign rfl) rfl ?_
            refine ops_nil ?_
            refine Then_normal ?_
            refine back (m4 - 1) (by omega) (kept ⟨i + 1, q8, ⟨by omega, by omega, k8, hh8⟩, rfl, rfl⟩ ?_ ?_ ?_)
            · exact (by repeat (first | exact Has.nil _ | refine Has.cons rfl ?_))
            · exact (by repeat (first | exact Has.nil _ | refine Has.cons rfl ?_))
            · exact (SubH.cons 3 rfl (SubH.cons 3 rfl (SubH.cons 4 rfl (SubH.nil _))))
      · replace hc105 := of_decide_eq_false hc105
        refine wp_exit' ?_
        refine Then_exit ?_
        refine Then_exit ?_
        refine InBlock_here ?_
        refine Then_normal ?_
        refine wp_seq' ?_
        have hfin : q1.fin = ((0 : Int), (0 : Int)) := here_fin (by
          have e : (l.take 20).drop i = [] := List.drop_eq_nil_iff.2 (by rw [List.length_take]; omega)
          rw [e] at hh; exact hh)
        refine wp_region' ?_
        refine ops_ro' rfl (ro_move rfl) rfl ?_
        refine ops_eff' rfl (eff_call Tryd.call14 rfl rfl (by repeat (first | exact Split.nil _ | apply Split.cons 0 rfl | apply Split.cons 1 rfl | apply Split.cons 2 rfl | apply Split.cons 3 rfl | apply Split.cons 4 rfl | apply Split.cons 5 rfl | apply Split.cons 6 rfl | apply Split.cons 7 rfl | apply Split.cons 8 rfl | apply Split.cons 9 rfl | apply Split.cons 10 rfl | apply Split.cons 11 rfl)) (end_spec pr p3 c3 q1 hg.len hg.pos)) rfl ?_
        rintro _ H' ⟨_, ⟨rfl, rfl⟩, hH⟩
        simp only [List.cons_append, List.nil_append, List.eraseIdx_cons_zero, List.eraseIdx_cons_succ, List.set_cons_zero, List.set_cons_succ] at hH
        subst hH
        rw [hfin]
        refine ops_ro' rfl (ro_move rfl) rfl ?_
        refine ops_ro' rfl (ro_extract rfl rfl) rfl ?_
        refine ops_ro' rfl (ro_extract rfl rfl) rfl ?_
        refine ops_ro' rfl (ro_assign rfl) rfl ?_
        refine ops_ro' rfl (ro_assign rfl) rfl ?_
        refine ops_nil ?_
        refine Then_normal ?_
        refine wp_seq' ?_
        refine wp_region' ?_
        refine ops_ro' rfl (ro_move rfl) rfl ?_
        refine ops_ro' rfl (ro_eql rfl rfl (decide_eq_true (by omega))) rfl ?_
        refine ops_ro' rfl (ro_move (v := .bool true) rfl) rfl ?_
        refine ops_eff' rfl (eff_call Tryd.call15 rfl rfl (by repeat (first | exact Split.nil _ | apply Split.cons 0 rfl | apply Split.cons 1 rfl | apply Split.cons 2 rfl | apply Split.cons 3 rfl | apply Split.cons 4 rfl | apply Split.cons 5 rfl | apply Split.cons 6 rfl | apply Split.cons 7 rfl | apply Split.cons 8 rfl | apply Split.cons 9 rfl | apply Split.cons 10 rfl | apply Split.cons 11 rfl)) (known1_spec)) rfl ?_
        rintro _ H' ⟨_, ⟨rfl, rfl⟩, hH⟩
        simp only [List.cons_append, List.nil_append, List.eraseIdx_cons_zero, List.eraseIdx_cons_succ, List.set_cons_zero, List.set_cons_succ] at hH
        subst hH
        refine ops_ro' rfl (ro_pick rfl rfl) rfl ?_
        refine ops_ro' rfl (ro_assign rfl) rfl ?_
        refine ops_nil ?_
        refine Then_normal ?_
        refine wp_ret' ?_
        refine' doneS_ret (res1 rfl rfl) ?_ ?_
        rotate_left 1
        exact ⟨rfl, rfl⟩
        exact (SubH.cons 2 rfl (SubH.nil _))
  · replace hg23 := of_decide_eq_false hg23
    refine ops_skip' rfl rfl ?_
    refine ops_skip' rfl rfl ?_
    refine ops_ro' rfl (ro_pick rfl rfl) rfl ?_
    refine ops_nil ?_
    refine Then_normal ?_
    refine wp_condF rfl ?_
    refine wp_exit' ?_
    refine Then_exit ?_
    refine Then_exit ?_
    refine InBlock_here ?_
    refine Then_normal ?_
    refine wp_seq' ?_
    have ha20 : a = (l.take 20).flatMap enc1 := by
      rw [ha, encs]
      by_cases h : i = 20
      · rw [h]
      · rw [List.take_of_length_le (by omega), List.take_of_length_le (by omega)]
    have hla : a.length ≤ 40000 := by have := encs_len l i; rw [← ha] at this; omega
    refine wp_region' ?_
    refine ops_ro' rfl (ro_move rfl) rfl ?_
    refine ops_eff' rfl (eff_call Tryd.call12 rfl rfl (by repeat (first | exact Split.nil _ | apply Split.cons 0 rfl | apply Split.cons 1 rfl | apply Split.cons 2 rfl | apply Split.cons 3 rfl | apply Split.cons 4 rfl | apply Split.cons 5 rfl | apply Split.cons 6 rfl | apply Split.cons 7 rfl | apply Split.cons 8 rfl | apply Split.cons 9 rfl | apply Split.cons 10 rfl | apply Split.cons 11 rfl)) (done_spec pw pp cp a (by omega))) rfl ?_
    rintro _ H' ⟨_, ⟨pd, cd, rfl, _, rfl⟩, hH⟩
    simp only [List.cons_append, List.nil_append, List.eraseIdx_cons_zero, List.eraseIdx_cons_succ, List.set_cons_zero, List.set_cons_succ] at hH
    subst hH
    refine ops_eff' rfl (eff_call Tryd.call11 rfl rfl (by repeat (first | exact Split.nil _ | apply Split.cons 0 rfl | apply Split.cons 1 rfl | apply Split.cons 2 rfl | apply Split.cons 3 rfl | apply Split.cons 4 rfl | apply Split.cons 5 rfl | apply Split.cons 6 rfl | apply Split.cons 7 rfl | apply Split.cons 8 rfl | apply Split.cons 9 rfl | apply Split.cons 10 rfl | apply Split.cons 11 rfl)) (newReader_spec _ _ _ a Vw.row (by omega))) rfl ?_
    rintro _ H' ⟨_, ⟨pr, p3, c3, rfl, rfl⟩, hH⟩
    simp only [List.cons_append, List.nil_append, List.eraseIdx_cons_zero, List.eraseIdx_cons_succ, List.set_cons_zero, List.set_cons_succ] at hH
    subst hH
    have hg0 := R.good_new a (by omega)
    have hh0 : Here (R.new a) (((l.take 20).drop 0).flatMap enc1) := by rw [List.drop_zero, ← ha20]; exact Here.new _
    refine ops_ro' rfl (ro_assign rfl) rfl ?_
    refine ops_nil ?_
    refine Then_normal ?_
    refine wp_seq' ?_
    refine wp_seq' ?_
    refine wp_region' ?_
    refine ops_ro' rfl (ro_move rfl) rfl ?_
    refine ops_ro' rfl (ro_ptrEqlNil Tryd.underlying26 rfl rfl rfl) rfl ?_
    refine ops_nil ?_
    refine Then_normal ?_
    refine wp_condF rfl ?_
    refine wp_skip' ?_
    refine Then_normal ?_
    refine wp_seq' ?_
    refine wp_seq' ?_
    refine wp_region' ?_
    refine ops_ro' rfl (ro_assign rfl) rfl ?_
    refine ops_nil ?_
    refine Then_normal ?_
    refine wp_block' ?_
    refine wp_loopK 26 (fun m Δ LL => ∃ (i : Nat) (q1 : R), (i + m = l.length ∧ i ≤ 20 ∧ q1.Good ∧ Here q1 (((l.take 20).drop i).flatMap enc1)) ∧ Δ = [(9, .int .i64 (i : Nat))] ∧ LL = rd pr p3 c3 q1 ++ [V]) (m := l.length) (Has.cons (k := 0) rfl (Has.cons (k := 8) rfl (Has.nil _))) (kept ⟨0, R.new a, ⟨by omega, by omega, hg0, hh0⟩, rfl, rfl⟩ (by repeat (first | exact Has.nil _ | refine Has.cons rfl ?_)) (by repeat (first | exact Has.nil _ | refine Has.cons rfl ?_)) (by repeat (first | exact SubH.nil _ | refine SubH.cons 0 rfl ?_ | refine SubH.cons 1 rfl ?_ | refine SubH.cons 2 rfl ?_ | refine SubH.cons 3 rfl ?_ | refine SubH.cons 4 rfl ?_ | refine SubH.cons 5 rfl ?_ | refine SubH.cons 6 rfl ?_ | refine SubH.cons 7 rfl ?_ | refine SubH.cons 8 rfl ?_ | refine SubH.cons 9 rfl ?_ | refine SubH.cons 10 rfl ?_ | refine SubH.cons 11 rfl ?_ | refine SubH.cons 12 rfl ?_ | refine SubH.cons 13 rfl ?_ | refine SubH.rown ?_))) ?_
    rintro m4 Δ LL ⟨i, q1, ⟨hm, hi20, hg, hh⟩, rfl, rfl⟩
    simp only [List.cons_append, List.nil_append]
    refine wp_seq' ?_
    refine wp_seq' ?_
    refine wp_region' ?_
    refine ops_ro' rfl (ro_move rfl) rfl ?_
    refine ops_ro' rfl (ro_move rfl) rfl ?_
    refine ops_ro' rfl (ro_sliceLen Tryd.underlying37 rfl) rfl ?_
    refine ops_ro' rfl (ro_lss rfl rfl rfl) rfl ?_
    refine ops_split rfl rfl rfl (fun hg102 => ?_) (fun hg102 => ?_)
    · replace hg102 := of_decide_eq_true hg102
      refine ops_ro' rfl (ro_move rfl) rfl ?_
      refine ops_ro' rfl (ro_lss rfl rfl (decide_eq_true (by omega))) rfl ?_
      refine ops_ro' rfl (ro_pick rfl rfl) rfl ?_
      refine ops_nil ?_
      refine Then_normal ?_
      refine wp_condT rfl ?_
      refine wp_skip' ?_
      refine Then_normal ?_
      refine wp_seq' ?_
      refine wp_block' ?_
      refine wp_seq' ?_
      have hi : i < l.length := by omega
      have hok := hP l[i] (List.getElem_mem hi)
      refine wp_know (fun w F s => vw_ptr (Vw.pick (H := [_, _, V]) 2 rfl hL) s (by omega)) ?_
      rintro ⟨b2, o2, rfl⟩
      refine wp_region' ?_
      refine ops_ro' rfl (ro_move rfl) rfl ?_
      refine ops_ro' rfl (ro_move rfl) rfl ?_
      refine ops_ro' rfl (ro_indexSlice sl37 rfl rfl rfl (by omega)) rfl ?_
      refine ops_ro' rfl (ro_loadA ag40 rfl (RdN.of_pick 2 rfl ((RdN.elem (vw_rdn hL) Pt.len (List.getElem?_eq_getElem hi)))) rfl) rfl ?_
      refine ops_eff' rfl (eff_call Tryd.call16 rfl rfl (by repeat (first | exact Split.nil _ | apply Split.cons 0 rfl | apply Split.cons 1 rfl | apply Split.cons 2 rfl | apply Split.cons 3 rfl | apply Split.cons 4 rfl | apply Split.cons 5 rfl | apply Split.cons 6 rfl | apply Split.cons 7 rfl | apply Split.cons 8 rfl | apply Split.cons 9 rfl | apply Split.cons 10 rfl | apply Split.cons 11 rfl)) (short_spec V l[i].kind l[i].n l[i].s l[i].l l[i].p l[i].c hok.vw (by have := hok.cap; simp only [maxLen] at this; omega))) rfl ?_
      rintro _ H' ⟨_, ⟨_, ⟨p5, c5, rfl, rfl⟩, rfl⟩, hH⟩
      simp only [List.cons_append, List.nil_append, List.eraseIdx_cons_zero, List.eraseIdx_cons_succ, List.set_cons_zero, List.set_cons_succ] at hH
      subst hH
      have hx8 := few2_n l[i].l
      have hx66 := few2_66 (l[i].l.take 8)
      have hsl : (l[i].s.take 200).length ≤ 200 := by rw [List.length_take]; omega
      generalize hxs : few2 (l[i].l.take 8) 66 = xs at *
      generalize hss : l[i].s.take 200 = s at *
      have hn64 := hok.n
      refine ops_eff' rfl (eff_alloc z40) rfl ?_
      rintro _ _ ⟨b10, rfl, rfl⟩
      refine ops_eff0 rfl (eff_storeA 0 ag40 rfl rfl rfl rfl rfl (Nat.le_of_ble_eq_true rfl) (warm_zero _)) rfl ?_
      rintro _ _ rfl
      refine ops_nil ?_
      refine Then_normal ?_
      refine wp_seq' ?_
      refine wp_region' ?_
      refine ops_ro' rfl (ro_assign rfl) rfl ?_
      refine ops_nil ?_
      refine Then_normal ?_
      refine wp_seq' ?_
      refine wp_seq' ?_
      refine wp_region' ?_
      refine ops_ro' rfl (ro_assign rfl) rfl ?_
      refine ops_nil ?_
      refine Then_normal ?_
      refine wp_block' ?_
      refine wp_loopK 31 (fun m Δ LL => ∃ (j : Nat) (p6 : Option Addr) (c6 : Nat), (j + m = xs.length) ∧ Δ = [(11, .slice p6 (nms xs j).length c6), (12, .int .i64 (j : Nat))] ∧ LL = [row 9 1 (.slice p6 (nms xs j).length c6) (nms xs j).length (txs (nms xs j)), own b10 (.cells (Pt.cs ⟨l[i].kind, l[i].n, s, xs, p5, c5⟩).toArray 40 (0, 0)), row 9 1 (.slice p5 xs.length c5) xs.length (txs xs)] ++ rd pr p3 c3 q1 ++ [V]) (m := xs.length) (Has.cons (k := 0) rfl (Has.cons (k := 8) rfl (Has.cons (k := 9) rfl (Has.cons (k := 10) rfl (Has.nil _))))) (kept ⟨0, none, 0, by omega, rfl, rfl⟩ (by repeat (first | exact Has.nil _ | refine Has.cons rfl ?_)) (by repeat (first | exact Has.nil _ | refine Has.cons rfl ?_)) (by repeat (first | exact SubH.nil _ | refine SubH.cons 0 rfl ?_ | refine SubH.cons 1 rfl ?_ | refine SubH.cons 2 rfl ?_ | refine SubH.cons 3 rfl ?_ | refine SubH.cons 4 rfl ?_ | refine SubH.cons 5 rfl ?_ | refine SubH.cons 6 rfl ?_ | refine SubH.cons 7 rfl ?_ | refine SubH.cons 8 rfl ?_ | refine SubH.cons 9 rfl ?_ | refine SubH.cons 10 rfl ?_ | refine SubH.cons 11 rfl ?_ | refine SubH.cons 12 rfl ?_ | refine SubH.cons 13 rfl ?_ | refine SubH.rown ?_))) ?_
      rintro m5 Δ LL ⟨j, p6, c6, hmj, rfl, rfl⟩
      simp only [List.cons_append, List.nil_append]
      refine wp_seq' ?_
      refine wp_seq' ?_
      refine wp_region' ?_
      refine ops_ro' rfl (ro_move rfl) rfl ?_
      refine ops_ro' rfl (ro_fieldAddr fa40_3 rfl) rfl ?_
      refine ops_ro' rfl (ro_load sc30 rfl (Rd.pick 1 rfl (Rd.own rfl))) rfl ?_
      refine ops_ro' rfl (ro_sliceLen Tryd.underlying30 rfl) rfl ?_
      refine ops_ro' rfl (ro_lss rfl rfl rfl) rfl ?_
      refine ops_nil ?_
      refine Then_normal ?_
      refine wp_cond' rfl (fun hc117 => ?_) (fun hc117 => ?_)
      · replace hc117 := of_decide_eq_true hc117
        dsimp only at hc117
        have hj : j < xs.length := by omega
        have hxj := hx66 _ (List.getElem_mem hj)
        refine wp_know (fun w F s => row_ptr' 2 rfl s (by omega)) ?_
        rintro ⟨bx, rfl⟩
        refine wp_skip' ?_
        refine Then_normal ?_
        refine wp_seq' ?_
        refine wp_block' ?_
        refine wp_seq' ?_
        refine wp_region' ?_
        refine ops_ro' rfl (ro_fieldAddr fa40_3 rfl) rfl ?_
        refine ops_ro' rfl (ro_load sc30 rfl (Rd.pick 1 rfl (Rd.own rfl))) rfl ?_
        refine ops_ro' rfl (ro_move rfl) rfl ?_
        refine ops_ro' rfl (ro_indexSlice sl30 rfl rfl rfl (by omega)) rfl ?_
        refine ops_ro' rfl (ro_load sc9 rfl (Rd.pick 2 rfl (Rd.elem (j := 0) (RdN.row) Tx.len (List.getElem?_eq_getElem hj) rfl))) rfl ?_
        refine ops_eff' rfl (eff_call Tryd.call17 rfl rfl (by repeat (first | exact Split.nil _ | apply Split.cons 0 rfl | apply Split.cons 1 rfl | apply Split.cons 2 rfl | apply Split.cons 3 rfl | apply Split.cons 4 rfl | apply Split.cons 5 rfl | apply Split.cons 6 rfl | apply Split.cons 7 rfl | apply Split.cons 8 rfl | apply Split.cons 9 rfl | apply Split.cons 10 rfl | apply Split.cons 11 rfl)) (rRight_spec _ (by omega))) rfl ?_
        rintro _ H' ⟨_, ⟨rfl, rfl⟩, hH⟩
        simp only [List.cons_append, List.nil_append, List.eraseIdx_cons_zero, List.eraseIdx_cons_succ, List.set_cons_zero, List.set_cons_succ] at hH
        subst hH
        refine ops_nil ?_
        refine Then_normal ?_
        refine wp_cond' rfl (fun hc125 => ?_) (fun hc125 => ?_)
        · skip
          refine wp_region' ?_
          refine ops_ro' rfl (ro_move rfl) rfl ?_
          refine ops_ro' rfl (ro_fieldAddr fa40_3 rfl) rfl ?_
          refine ops_ro' rfl (ro_load sc30 rfl (Rd.pick 1 rfl (Rd.own rfl))) rfl ?_
          refine ops_ro' rfl (ro_move rfl) rfl ?_
          refine ops_ro' rfl (ro_indexSlice sl30 rfl rfl rfl (by omega)) rfl ?_
          refine ops_ro' rfl (ro_load sc9 rfl (Rd.pick 2 rfl (Rd.elem (j := 0) (RdN.row) Tx.len (List.getElem?_eq_getElem hj) rfl))) rfl ?_
          refine ops_eff' rfl (eff_lit sl30 rfl (sbld (cs := [_]) [(.string ByteArray.empty)] sl30 (by decide) (by kernel_rfl) rfl) rfl (by decide)) rfl ?_
          rintro _ _ ⟨b132, rfl, rfl⟩
          refine ops_eff' rfl (eff_appF (f := Tx.cs) (l2 := [xs[j]]) 1 sl30 (.inl ⟨9, Tryd.underlying30⟩) rfl rfl rfl (by first | exact Src.flatv Tx.len Tx.one (Vw.pick 0 rfl hv) | exact Src.flatv Tx.len Tx.one (Vw.pick 1 rfl hv) | exact Src.flatv Tx.len Tx.one (Vw.pick 2 rfl hv) | exact Src.flatv Tx.len Tx.one (Vw.pick 3 rfl hv) | exact Src.flatv Tx.len Tx.one (Vw.pick 4 rfl hv) | exact Src.flatv Tx.len Tx.one (Vw.pick 5 rfl hv) | exact Src.flatv Tx.len Tx.one (Vw.pick 6 rfl hv) | exact Src.flatv Tx.len Tx.one (Vw.pick 7 rfl hv) | exact Src.flatv Tx.len Tx.one (Vw.pick 8 rfl hv) | exact Src.flatv Tx.len Tx.one (Vw.pick 9 rfl hv) | exact Src.flatv Tx.len Tx.one (Vw.pick 10 rfl hv) | exact Src.flatv Tx.len Tx.one (Vw.pick 11 rfl hv) | exact Src.flatv Tx.len Tx.one (Vw.pick 0 rfl Vw.row) | exact Src.flatv Tx.len Tx.one (Vw.pick 1 rfl Vw.row) | exact Src.flatv Tx.len Tx.one (Vw.pick 2 rfl Vw.row) | exact Src.flatv Tx.len Tx.one (Vw.pick 3 rfl Vw.row) | exact Src.flatv Tx.len Tx.one (Vw.pick 4 rfl Vw.row) | exact Src.flatv Tx.len Tx.one (Vw.pick 5 rfl Vw.row) | exact Src.flatv Tx.len Tx.one (Vw.pick 6 rfl Vw.row) | exact Src.flatv Tx.len Tx.one (Vw.pick 7 rfl Vw.row) | exact Src.flatv Tx.len Tx.one (Vw.pick 8 rfl Vw.row) | exact Src.flatv Tx.len Tx.one (Vw.pick 9 rfl Vw.row) | exact Src.flatv Tx.len Tx.one (Vw.pick 10 rfl Vw.row) | exact Src.flatv Tx.len Tx.one (Vw.pick 11 rfl Vw.row)) (by simp only [List.length_cons, List.length_nil]; have := nms_le xs j; omega) (by simp only [List.length_cons, List.length_nil]; have := nms_le xs j; omega)) rfl ?_
          rintro _ _ ⟨p133, c133, rfl, hn133, rfl⟩
          simp only [List.set_cons_zero, List.set_cons_succ]
          rw [← nms_yes hj hc125]
          refine ops_ro' rfl (ro_assign rfl) rfl ?_
          refine ops_nil ?_
          refine InBlock_normal ?_
          refine Then_normal ?_
          refine wp_region' ?_
          refine ops_ro' rfl (ro_move rfl) rfl ?_
          refine ops_ro' rfl (ro_add rfl rfl (wrap_inc (by omega))) rfl ?_
          refine ops_ro' rfl (ro_assign rfl) rfl ?_
          refine ops_nil ?_
          refine Then_normal ?_
          refine back (m5 - 1) (by omega) (kept ⟨j + 1, p133, c133, by omega, rfl, rfl⟩ ?_ ?_ ?_)
          · exact (by repeat (first | exact Has.nil _ | refine Has.cons rfl ?_))
          · exact (by repeat (first | exact Has.nil _ | refine Has.cons rfl ?_))
          · exact (SubH.cons 1 rfl (SubH.cons 1 rfl (SubH.cons 1 rfl (SubH.cons 1 rfl (SubH.cons 1 rfl (SubH.cons 1 rfl (SubH.nil _)))))))
        · skip
          rw [← nms_no hj (by simpa using hc125)]
          refine wp_skip' ?_
          refine InBlock_normal ?_
          refine Then_normal ?_
          refine wp_region' ?_
          refine ops_ro' rfl (ro_move rfl) rfl ?_
          refine ops_ro' rfl (ro_add rfl rfl (wrap_inc (by omega))) rfl ?_
          refine ops_ro' rfl (ro_assign rfl) rfl ?_
          refine ops_nil ?_
          refine Then_normal ?_
          refine back (m5 - 1) (by omega) (kept ⟨j + 1, p6, c6, by omega, rfl, rfl⟩ ?_ ?_ ?_)
          · exact (by repeat (first | exact Has.nil _ | refine Has.cons rfl ?_))
          · exact (by repeat (first | exact Has.nil _ | refine Has.cons rfl ?_))
          · exact SubH.refl _
      · replace hc117 := of_decide_eq_false hc117
        dsimp only at hc117
        obtain rfl : j = xs.length := by omega
        refine wp_know (fun w F s => row_caps 0 rfl s) ?_
        intro hc6
        have hnj := nms_j hx66 hx8 xs.length
        have hnle := nms_le xs xs.length
        refine wp_exit' ?_
        refine Then_exit ?_
        refine Then_exit ?_
        refine InBlock_here ?_
        refine Then_normal ?_
        refine wp_seq' ?_
        refine wp_region' ?_
        refine ops_ro' rfl (ro_fieldAddr fa40_2 rfl) rfl ?_
        refine ops_ro' rfl (ro_load sc9 rfl (Rd.pick 1 rfl (Rd.own rfl))) rfl ?_
        refine ops_eff' rfl (eff_toBytesS Tryd.underlying9 Tryd.underlying28 Tryd.underlying5 rfl (by simp only [maxLen]; omega)) rfl ?_
        rintro _ _ ⟨b136, c136, rfl, rfl⟩
        refine ops_know (fun w F s => row_caps 0 rfl s) ?_
        intro hcs
        refine ops_ro' rfl (ro_assign rfl) rfl ?_
        refine ops_nil ?_
        refine Then_normal ?_
        refine wp_seq' ?_
        refine wp_block' ?_
        refine wp_loopK 36 (fun m Δ LL => ∃ (y : List UInt8) (p13 : Option Addr) (c13 : Nat), (y.length = m ∧ bare y = bare s ∧ y.length ≤ c13 ∧ Vw (row 5 1 (.slice (some ⟨b136, 0, none⟩) s.length c136) s.length (cel s)) (.slice p13 y.length c13) y.length (cel y)) ∧ Δ = [(13, .slice p13 y.length c13)] ∧ LL = [row 5 1 (.slice (some ⟨b136, 0, none⟩) s.length c136) s.length (cel s), row 9 1 (.slice p6 (nms xs xs.length).length c6) (nms xs xs.length).length (txs (nms xs xs.length)), own b10 (.cells (Pt.cs ⟨l[i].kind, l[i].n, s, xs, p5, c5⟩).toArray 40 (0, 0)), row 9 1 (.slice p5 xs.length c5) xs.length (txs xs)] ++ rd pr p3 c3 q1 ++ [V]) (m := s.length) (Has.cons (k := 0) rfl (Has.cons (k := 8) rfl (Has.cons (k := 9) rfl (Has.cons (k := 10) rfl (Has.cons (k := 11) rfl (Has.nil _)))))) (kept ⟨s, some ⟨b136, 0, none⟩, c136, ⟨rfl, rfl, hcs, Vw.row⟩, rfl, rfl⟩ (by repeat (first | exact Has.nil _ | refine Has.cons rfl ?_)) (by repeat (first | exact Has.nil _ | refine Has.cons rfl ?_)) (by repeat (first | exact SubH.nil _ | refine SubH.cons 0 rfl ?_ | refine SubH.cons 1 rfl ?_ | refine SubH.cons 2 rfl ?_ | refine SubH.cons 3 rfl ?_ | refine SubH.cons 4 rfl ?_ | refine SubH.cons 5 rfl ?_ | refine SubH.cons 6 rfl ?_ | refine SubH.cons 7 rfl ?_ | refine SubH.cons 8 rfl ?_ | refine SubH.cons 9 rfl ?_ | refine SubH.cons 10 rfl ?_ | refine SubH.cons 11 rfl ?_ | refine SubH.cons 12 rfl ?_ | refine SubH.cons 13 rfl ?_ | refine SubH.rown ?_))) ?_
        rintro m6 Δ LL ⟨y, p13, c13, ⟨hy, hb, hcap, hv⟩, rfl, rfl⟩
        simp only [List.cons_append, List.nil_append]
        refine wp_seq' ?_
        refine wp_seq' ?_
        refine wp_region' ?_
        refine ops_ro' rfl (ro_move rfl) rfl ?_
        refine ops_ro' rfl (ro_sliceLen Tryd.underlying28 rfl) rfl ?_
        refine ops_ro' rfl (ro_gtr rfl rfl rfl) rfl ?_
        refine ops_split rfl rfl rfl (fun hg140 => ?_) (fun hg140 => ?_)
        · replace hg140 := of_decide_eq_true hg140
          have h0 : 0 < y.length := by omega
          refine ops_know (fun w F s => vw_ptr (Vw.pick (H := [_, _, _, _, _, _, V]) 0 rfl hv) s (by omega)) ?_
          rintro ⟨b13, o13, rfl⟩
          refine ops_ro' rfl (ro_move rfl) rfl ?_
          refine ops_ro' rfl (ro_indexSlice sl28 rfl rfl rfl (by omega)) rfl ?_
          refine ops_ro' rfl (ro_load sc5 rfl (Rd.pick 0 rfl (Rd.of_n (vw_rdn hv) (j := 0) (by first | rfl | omega) (cel_get h0)))) rfl ?_
          refine ops_ro' rfl (ro_eql rfl rfl rfl) rfl ?_
          refine ops_ro' rfl (ro_pick rfl rfl) rfl ?_
          refine ops_nil ?_
          refine Then_normal ?_
          refine wp_cond' rfl (fun hc145 => ?_) (fun hc145 => ?_)
          · replace hc145 := of_decide_eq_true hc145
            have hz : y[0] = 0 := UInt8.toNat_inj.1 (by show y[0].toNat = 0; omega)
            refine wp_skip' ?_
            refine Then_normal ?_
            refine wp_block' ?_
            refine wp_region' ?_
            refine ops_ro' rfl (ro_move rfl) rfl ?_
            refine ops_eff' rfl (eff_sliceB 0 rfl sl28 rfl hv (bnd_of rfl rfl) rfl (by dsimp only; omega) (Nat.le_refl _) hcap) rfl ?_
            rintro _ _ ⟨p147, rfl, hv147, hn147, rfl⟩
            have hy1 : List.take (y.length - 1) (List.drop 1 y) = List.drop 1 y := List.take_of_length_le (by simp)
            rw [hy1] at hv147 ⊢
            refine ops_ro' rfl (ro_assign rfl) rfl ?_
            refine ops_nil ?_
            refine InBlock_normal ?_
            refine Then_normal ?_
            refine back (m6 - 1) (by omega) (kept ⟨y.drop 1, p147, c13 - 1, ⟨by rw [List.length_drop, hy], by rw [← hb, ← bare_drop h0 hz], by rw [List.length_drop]; omega, hv147⟩, rfl, rfl⟩ ?_ ?_ ?_)
            · exact (by repeat (first | exact Has.nil _ | refine Has.cons rfl ?_))
            · exact (by repeat (first | exact Has.nil _ | refine Has.cons rfl ?_))
            · exact SubH.refl _
          · replace hc145 := of_decide_eq_false hc145
            have hz : y[0] ≠ 0 := fun h => hc145 (by rw [h]; rfl)
            refine wp_exit' ?_
            refine Then_exit ?_
            refine Then_exit ?_
            refine InBlock_here ?_
            refine Then_normal ?_
            refine wp_seq' ?_
            have HB : bare s = y := by rw [← hb]; first | exact bare_stop0 h0 hz | exact bare_nil0 (by omega)
            rw [decs_cons hi (by omega)] at hh
            have hh2 : Here q1 (enc2 l[i].n s (nms xs xs.length) ++ ((l.take 20).drop (i + 1)).flatMap enc1) := by have h := hh; rw [enc1, show ps l[i] = s from hss, show px l[i] = xs from hxs] at h; exact h
            obtain ⟨q8, ⟨⟨t1, t2, t3, t4, t5, t6, t7, g1, g2, g3, g4, g5, g6, g7, g8⟩, hh8⟩⟩ := back_reads hh2 (by omega) hsl (nms_all _ _) hnj
            have k1 : t1.Good := by have h := R.good_get hg 1; rw [g1] at h; exact h
            have k2 : t2.Good := by have h := R.good_get k1 4; rw [g2] at h; exact h
            have k3 : t3.Good := by have h := R.good_get k2 8; rw [g3] at h; exact h
            have k4 : t4.Good := by have h := R.good_text k3 (s.length : Nat); rw [g4] at h; exact h
            have k5 : t5.Good := by have h := R.good_mp k4 201; rw [g5] at h; exact h
            have k6 : t6.Good := by have h := R.good_lst k5; rw [g6] at h; exact h
            have k7 : t7.Good := by have h := R.good_get k6 1; rw [g7] at h; exact h
            have k8 : q8.Good := by have h := R.good_take k7 (s.length : Nat); rw [g8] at h; exact h
            refine wp_draw 67 (by kernel_rfl) (Split.cons 0 rfl (Split.cons 1 rfl (Split.nil _))) ?_
            refine any_ro' (i := 0) (by kernel_rfl) rfl rfl (ro_move rfl) rfl (fun _ _ _ h => h) ?_
            refine any_ro' (i := 2) (by kernel_rfl) rfl rfl (ro_fieldAddr fa40_1 rfl) rfl (fun _ _ _ h => h) ?_
            refine any_ro' (i := 3) (by kernel_rfl) rfl rfl (ro_load sc38 rfl (Rd.pick 1 rfl (Rd.own rfl))) rfl (fun _ _ _ h => h) ?_
            refine any_ro' (i := 4) (by kernel_rfl) rfl rfl (ro_rem rfl rfl (by omega) (show ((l[i].n : Nat) : Int).tmod 256 = ((l[i].n % 256 : Nat) : Int) from by rw [Int.tmod_eq_emod_of_nonneg (by omega)]; omega)) rfl (fun _ _ _ h => h) ?_
            refine any_ro' (i := 5) (by kernel_rfl) rfl rfl (ro_conv Tryd.underlying38 Tryd.underlying3 rfl (wrap_i64_in (by omega) (by omega))) rfl (fun _ _ _ h => h) ?_
            refine any_eff' (i := 1) (by kernel_rfl) rfl rfl (eff_call Tryd.call25 rfl rfl (by repeat (first | exact Split.nil _ | apply Split.cons 0 rfl | apply Split.cons 1 rfl | apply Split.cons 2 rfl | apply Split.cons 3 rfl | apply Split.cons 4 rfl | apply Split.cons 5 rfl | apply Split.cons 6 rfl | apply Split.cons 7 rfl | apply Split.cons 8 rfl | apply Split.cons 9 rfl | apply Split.cons 10 rfl | apply Split.cons 11 rfl)) (rByte_spec pr p3 c3 q1 hg)) rfl ?_
            rintro _ H' ⟨_, ⟨rfl, rfl⟩, hH⟩
            simp only [List.cons_append, List.nil_append, List.eraseIdx_cons_zero, List.eraseIdx_cons_succ, List.set_cons_zero, List.set_cons_succ] at hH
            subst hH
            rw [g1]
            dsimp only
            refine any_ro' (i := 6) (by kernel_rfl) rfl rfl (ro_neq rfl rfl (decide_eq_false (by omega))) rfl (fun _ _ _ h => h) ?_
            refine any_ro' (i := 7) (by kernel_rfl) rfl rfl (ro_move (v := .bool false) rfl) rfl (fun _ _ _ h => h) ?_
            refine any_ro' (i := 8) (by kernel_rfl) rfl rfl (ro_move rfl) rfl (fun _ _ _ h => h) ?_
            refine any_ro' (i := 10) (by kernel_rfl) rfl rfl (ro_fieldAddr fa40_1 rfl) rfl (fun _ _ _ h => h) ?_
            refine any_ro' (i := 11) (by kernel_rfl) rfl rfl (ro_load sc38 rfl (Rd.pick 1 rfl (Rd.own rfl))) rfl (fun _ _ _ h => h) ?_
            refine any_ro' (i := 12) (by kernel_rfl) rfl rfl (ro_conv Tryd.underlying38 Tryd.underlying44 rfl (conv32 l[i].n)) rfl (fun _ _ _ h => h) ?_
            refine any_eff' (i := 9) (by kernel_rfl) rfl rfl (eff_call Tryd.call26 rfl rfl (by repeat (first | exact Split.nil _ | apply Split.cons 0 rfl | apply Split.cons 1 rfl | apply Split.cons 2 rfl | apply Split.cons 3 rfl | apply Split.cons 4 rfl | apply Split.cons 5 rfl | apply Split.cons 6 rfl | apply Split.cons 7 rfl | apply Split.cons 8 rfl | apply Split.cons 9 rfl | apply Split.cons 10 rfl | apply Split.cons 11 rfl)) (rU32_spec pr p3 c3 t1 k1.len k1.pos)) rfl ?_
            rintro _ H' ⟨_, ⟨rfl, rfl⟩, hH⟩
            simp only [List.cons_append, List.nil_append, List.eraseIdx_cons_zero, List.eraseIdx_cons_succ, List.set_cons_zero, List.set_cons_succ] at hH
            subst hH
            rw [g2]
            dsimp only
            refine any_ro' (i := 13) (by kernel_rfl) rfl rfl (ro_neq rfl rfl (decide_eq_false (by omega))) rfl (fun _ _ _ h => h) ?_
            refine any_ro' (i := 14) (by kernel_rfl) rfl rfl (ro_pick rfl rfl) rfl (fun _ _ _ h => h) ?_
            refine any_ro' (i := 15) (by kernel_rfl) rfl rfl (ro_move (v := .bool false) rfl) rfl (fun _ _ _ h => h) ?_
            refine any_ro' (i := 16) (by kernel_rfl) rfl rfl (ro_move rfl) rfl (fun _ _ _ h => h) ?_
            refine any_ro' (i := 18) (by kernel_rfl) rfl rfl (ro_fieldAddr fa40_1 rfl) rfl (fun _ _ _ h => h) ?_
            refine any_ro' (i := 19) (by kernel_rfl) rfl rfl (ro_load sc38 rfl (Rd.pick 1 rfl (Rd.own rfl))) rfl (fun _ _ _ h => h) ?_
            refine any_eff' (i := 17) (by kernel_rfl) rfl rfl (eff_call Tryd.call27 rfl rfl (by repeat (first | exact Split.nil _ | apply Split.cons 0 rfl | apply Split.cons 1 rfl | apply Split.cons 2 rfl | apply Split.cons 3 rfl | apply Split.cons 4 rfl | apply Split.cons 5 rfl | apply Split.cons 6 rfl | apply Split.cons 7 rfl | apply Split.cons 8 rfl | apply Split.cons 9 rfl | apply Split.cons 10 rfl | apply Split.cons 11 rfl)) (rU64_spec pr p3 c3 t2 k2.len k2.pos)) rfl ?_
            rintro _ H' ⟨_, ⟨rfl, rfl⟩, hH⟩
            simp only [List.cons_append, List.nil_append, List.eraseIdx_cons_zero, List.eraseIdx_cons_succ, List.set_cons_zero, List.set_cons_succ] at hH
            subst hH
            rw [g3]
            dsimp only
            refine any_ro' (i := 20) (by kernel_rfl) rfl rfl (ro_neq rfl rfl (decide_eq_false (by omega))) rfl (fun _ _ _ h => h) ?_
            refine any_ro' (i := 21) (by kernel_rfl) rfl rfl (ro_pick rfl rfl) rfl (fun _ _ _ h => h) ?_
            refine any_ro' (i := 22) (by kernel_rfl) rfl rfl (ro_move (v := .bool false) rfl) rfl (fun _ _ _ h => h) ?_
            refine any_ro' (i := 23) (by kernel_rfl) rfl rfl (ro_move rfl) rfl (fun _ _ _ h => h) ?_
            refine any_ro' (i := 24) (by kernel_rfl) rfl rfl (ro_fieldAddr fa40_2 rfl) rfl (fun _ _ _ h => h) ?_
            refine any_ro' (i := 25) (by kernel_rfl) rfl rfl (ro_load sc9 rfl (Rd.pick 1 rfl (Rd.own rfl))) rfl (fun _ _ _ h => h) ?_
            refine any_ro' (i := 26) (by kernel_rfl) rfl rfl (ro_lenS (t' := 0) Tryd.underlying9 rfl) rfl (fun _ _ _ h => h) ?_
            refine any_ro' (i := 28) (by kernel_rfl) rfl rfl (ro_fieldAddr fa40_2 rfl) rfl (fun _ _ _ h => h) ?_
            refine any_ro' (i := 29) (by kernel_rfl) rfl rfl (ro_load sc9 rfl (Rd.pick 1 rfl (Rd.own rfl))) rfl (fun _ _ _ h => h) ?_
            refine any_eff' (i := 27) (by kernel_rfl) rfl rfl (eff_call Tryd.call28 rfl rfl (by repeat (first | exact Split.nil _ | apply Split.cons 0 rfl | apply Split.cons 1 rfl | apply Split.cons 2 rfl | apply Split.cons 3 rfl | apply Split.cons 4 rfl | apply Split.cons 5 rfl | apply Split.cons 6 rfl | apply Split.cons 7 rfl | apply Split.cons 8 rfl | apply Split.cons 9 rfl | apply Split.cons 10 rfl | apply Split.cons 11 rfl)) (rText_spec pr p3 c3 t3 k3 (s.length : Nat) (by omega))) rfl ?_
            rintro _ H' ⟨_, ⟨rfl, rfl⟩, hH⟩
            simp only [List.cons_append, List.nil_append, List.eraseIdx_cons_zero, List.eraseIdx_cons_succ, List.set_cons_zero, List.set_cons_succ] at hH
            subst hH
            rw [g4]
            dsimp only
            refine any_ro' (i := 30) (by kernel_rfl) rfl rfl (ro_neqS rfl rfl (decide_eq_false (fun h => h rfl))) rfl (fun _ _ _ h => h) ?_
            refine any_ro' (i := 31) (by kernel_rfl) rfl rfl (ro_pick rfl rfl) rfl (fun _ _ _ h => h) ?_
            refine any_ro' (i := 32) (by kernel_rfl) rfl rfl (ro_move (v := .bool false) rfl) rfl (fun _ _ _ h => h) ?_
            refine any_ro' (i := 33) (by kernel_rfl) rfl rfl (ro_move rfl) rfl (fun _ _ _ h => h) ?_
            refine any_ro' (i := 36) (by kernel_rfl) rfl rfl (ro_move rfl) rfl (fun _ _ _ h => h) ?_
            refine any_ro' (i := 37) (by kernel_rfl) rfl rfl (ro_toStr Tryd.underlying28 Tryd.underlying5 Tryd.underlying9 rfl (Vw.pick 0 rfl hv) rfl) rfl (fun _ _ _ h => h) ?_
            refine any_eff' (i := 34) (by kernel_rfl) rfl rfl (eff_call Tryd.call29 rfl rfl (by repeat (first | exact Split.nil _ | apply Split.cons 0 rfl | apply Split.cons 1 rfl | apply Split.cons 2 rfl | apply Split.cons 3 rfl | apply Split.cons 4 rfl | apply Split.cons 5 rfl | apply Split.cons 6 rfl | apply Split.cons 7 rfl | apply Split.cons 8 rfl | apply Split.cons 9 rfl | apply Split.cons 10 rfl | apply Split.cons 11 rfl)) (rMpint_spec pr p3 c3 t4 k4 201 (by omega))) rfl ?_
            rintro _ H' ⟨_, ⟨pa, ca, rfl, rfl⟩, hH⟩
            simp only [List.cons_append, List.nil_append, List.eraseIdx_cons_zero, List.eraseIdx_cons_succ, List.set_cons_zero, List.set_cons_succ] at hH
            subst hH
            rw [g5]
            dsimp only
            rw [HB]
            refine any_eff' (i := 35) (by kernel_rfl) rfl rfl (eff_ro (ro_toStr Tryd.underlying28 Tryd.underlying5 Tryd.underlying9 rfl (Vw.pick 0 rfl Vw.row) rfl)) rfl ?_
            rintro _ _ ⟨rfl, rfl⟩
            refine any_ro' (i := 38) (by kernel_rfl) rfl rfl (ro_neqS rfl rfl (decide_eq_false (fun h => h rfl))) rfl (fun _ _ _ h => h) ?_
            refine any_ro' (i := 39) (by kernel_rfl) rfl rfl (ro_pick rfl rfl) rfl (fun _ _ _ h => h) ?_
            refine any_ro' (i := 40) (by kernel_rfl) rfl rfl (ro_move (v := .bool false) rfl) rfl (fun _ _ _ h => h) ?_
            refine any_ro' (i := 41) (by kernel_rfl) rfl rfl (ro_move rfl) rfl (fun _ _ _ h => h) ?_
            refine any_ro' (i := 43) (by kernel_rfl) rfl rfl (ro_move rfl) rfl (fun _ _ _ h => h) ?_
            refine any_eff' (i := 42) (by kernel_rfl) rfl rfl (eff_call Tryd.call13 rfl rfl (by repeat (first | exact Split.nil _ | apply Split.cons 0 rfl | apply Split.cons 1 rfl | apply Split.cons 2 rfl | apply Split.cons 3 rfl | apply Split.cons 4 rfl | apply Split.cons 5 rfl | apply Split.cons 6 rfl | apply Split.cons 7 rfl | apply Split.cons 8 rfl | apply Split.cons 9 rfl | apply Split.cons 10 rfl | apply Split.cons 11 rfl)) (rNames_spec hM pr p3 c3 t5 k5)) rfl ?_
            rintro _ H' ⟨_, ⟨pb, cb, rfl, rfl⟩, hH⟩
            simp only [List.cons_append, List.nil_append, List.eraseIdx_cons_zero, List.eraseIdx_cons_succ, List.set_cons_zero, List.set_cons_succ] at hH
            subst hH
            rw [g6]
            dsimp only
            refine any_eff' (i := 44) (by kernel_rfl) rfl rfl (eff_callM (Pre := []) Tryd.call30 rfl rfl (Split.nil _) (ktexts_spec _ (nms xs xs.length) (nms xs xs.length) _ _ _ _ (by first | exact (Vw.pick 0 rfl hv) | exact (Vw.pick 1 rfl hv) | exact (Vw.pick 2 rfl hv) | exact (Vw.pick 3 rfl hv) | exact (Vw.pick 4 rfl hv) | exact (Vw.pick 5 rfl hv) | exact (Vw.pick 6 rfl hv) | exact (Vw.pick 7 rfl hv) | exact (Vw.pick 8 rfl hv) | exact (Vw.pick 9 rfl hv) | exact (Vw.pick 10 rfl hv) | exact (Vw.pick 11 rfl hv) | exact Vw.pick 0 rfl Vw.row | exact Vw.pick 1 rfl Vw.row | exact Vw.pick 2 rfl Vw.row | exact Vw.pick 3 rfl Vw.row | exact Vw.pick 4 rfl Vw.row | exact Vw.pick 5 rfl Vw.row | exact Vw.pick 6 rfl Vw.row | exact Vw.pick 7 rfl Vw.row | exact Vw.pick 8 rfl Vw.row | exact Vw.pick 9 rfl Vw.row | exact Vw.pick 10 rfl Vw.row | exact Vw.pick 11 rfl Vw.row | exact Vw.nil _ | exact Vw.empty _ _) (by first | exact (Vw.pick 0 rfl hv) | exact (Vw.pick 1 rfl hv) | exact (Vw.pick 2 rfl hv) | exact (Vw.pick 3 rfl hv) | exact (Vw.pick 4 rfl hv) | exact (Vw.pick 5 rfl hv) | exact (Vw.pick 6 rfl hv) | exact (Vw.pick 7 rfl hv) | exact (Vw.pick 8 rfl hv) | exact (Vw.pick 9 rfl hv) | exact (Vw.pick 10 rfl hv) | exact (Vw.pick 11 rfl hv) | exact Vw.pick 0 rfl Vw.row | exact Vw.pick 1 rfl Vw.row | exact Vw.pick 2 rfl Vw.row | exact Vw.pick 3 rfl Vw.row | exact Vw.pick 4 rfl Vw.row | exact Vw.pick 5 rfl Vw.row | exact Vw.pick 6 rfl Vw.row | exact Vw.pick 7 rfl Vw.row | exact Vw.pick 8 rfl Vw.row | exact Vw.pick 9 rfl Vw.row | exact Vw.pick 10 rfl Vw.row | exact Vw.pick 11 rfl Vw.row | exact Vw.nil _ | exact Vw.empty _ _) (by omega))) rfl ?_
            rintro _ H' ⟨_, ⟨rfl, rfl⟩, hH⟩
            simp only [List.cons_append, List.nil_append, List.eraseIdx_cons_zero, List.eraseIdx_cons_succ, List.set_cons_zero, List.set_cons_succ] at hH
            subst hH
            rw [decide_eq_true rfl]
            refine any_ro' (i := 45) (by kernel_rfl) rfl rfl (ro_not rfl rfl) rfl (fun _ _ _ h => h) ?_
            refine any_ro' (i := 46) (by kernel_rfl) rfl rfl (ro_pick rfl rfl) rfl (fun _ _ _ h => h) ?_
            refine any_ro' (i := 47) (by kernel_rfl) rfl rfl (ro_move (v := .bool false) rfl) rfl (fun _ _ _ h => h) ?_
            refine any_ro' (i := 48) (by kernel_rfl) rfl rfl (ro_move rfl) rfl (fun _ _ _ h => h) ?_
            refine any_ro' (i := 50) (by kernel_rfl) rfl rfl (ro_fieldAddr fa40_1 rfl) rfl (fun _ _ _ h => h) ?_
            refine any_ro' (i := 51) (by kernel_rfl) rfl rfl (ro_load sc38 rfl (Rd.pick 1 rfl (Rd.own rfl))) rfl (fun _ _ _ h => h) ?_
            refine any_ro' (i := 52) (by kernel_rfl) rfl rfl (ro_rem rfl rfl (by omega) (show ((l[i].n : Nat) : Int).tmod 2 = ((l[i].n % 2 : Nat) : Int) from by rw [Int.tmod_eq_emod_of_nonneg (by omega)]; omega)) rfl (fun _ _ _ h => h) ?_
            refine any_ro' (i := 53) (by kernel_rfl) rfl rfl (ro_eql rfl rfl rfl) rfl (fun _ _ _ h => h) ?_
            refine any_eff' (i := 49) (by kernel_rfl) rfl rfl (eff_call Tryd.call31 rfl rfl (by repeat (first | exact Split.nil _ | apply Split.cons 0 rfl | apply Split.cons 1 rfl | apply Split.cons 2 rfl | apply Split.cons 3 rfl | apply Split.cons 4 rfl | apply Split.cons 5 rfl | apply Split.cons 6 rfl | apply Split.cons 7 rfl | apply Split.cons 8 rfl | apply Split.cons 9 rfl | apply Split.cons 10 rfl | apply Split.cons 11 rfl)) (rBool_spec pr p3 c3 t6 k6)) rfl ?_
            rintro _ H' ⟨_, ⟨rfl, rfl⟩, hH⟩
            simp only [List.cons_append, List.nil_append, List.eraseIdx_cons_zero, List.eraseIdx_cons_succ, List.set_cons_zero, List.set_cons_succ] at hH
            subst hH
            rw [g7]
            dsimp only
            rw [bool_in]
            refine any_ro' (i := 54) (by kernel_rfl) rfl rfl (ro_neq_bool Tryd.underlying4 rfl rfl (c := false) (by simp)) rfl (fun _ _ _ h => h) ?_
            refine any_ro' (i := 55) (by kernel_rfl) rfl rfl (ro_pick rfl rfl) rfl (fun _ _ _ h => h) ?_
            refine any_ro' (i := 56) (by kernel_rfl) rfl rfl (ro_move (v := .bool false) rfl) rfl (fun _ _ _ h => h) ?_
            refine any_ro' (i := 57) (by kernel_rfl) rfl rfl (ro_move rfl) rfl (fun _ _ _ h => h) ?_
            refine any_ro' (i := 58) (by kernel_rfl) rfl rfl (ro_fieldAddr fa40_2 rfl) rfl (fun _ _ _ h => h) ?_
            refine any_ro' (i := 59) (by kernel_rfl) rfl rfl (ro_load sc9 rfl (Rd.pick 1 rfl (Rd.own rfl))) rfl (fun _ _ _ h => h) ?_
            refine any_ro' (i := 60) (by kernel_rfl) rfl rfl (ro_lenS (t' := 0) Tryd.underlying9 rfl) rfl (fun _ _ _ h => h) ?_
            refine any_ro' (i := 63) (by kernel_rfl) rfl rfl (ro_fieldAddr fa40_2 rfl) rfl (fun _ _ _ h => h) ?_
            refine any_ro' (i := 64) (by kernel_rfl) rfl rfl (ro_load sc9 rfl (Rd.pick 1 rfl (Rd.own rfl))) rfl (fun _ _ _ h => h) ?_
            refine any_eff' (i := 61) (by kernel_rfl) rfl rfl (eff_call Tryd.call32 rfl rfl (by repeat (first | exact Split.nil _ | apply Split.cons 0 rfl | apply Split.cons 1 rfl | apply Split.cons 2 rfl | apply Split.cons 3 rfl | apply Split.cons 4 rfl | apply Split.cons 5 rfl | apply Split.cons 6 rfl | apply Split.cons 7 rfl | apply Split.cons 8 rfl | apply Split.cons 9 rfl | apply Split.cons 10 rfl | apply Split.cons 11 rfl)) (rRaw_spec pr p3 c3 t7 k7 (s.length : Nat))) rfl ?_
            rintro _ H' ⟨_, ⟨_, ⟨pc, cc, rfl, _, rfl⟩, rfl⟩, hH⟩
            simp only [List.cons_append, List.nil_append, List.eraseIdx_cons_zero, List.eraseIdx_cons_succ, List.set_cons_zero, List.set_cons_succ] at hH
            subst hH
            rw [g8]
            dsimp only
            refine any_eff' (i := 62) (by kernel_rfl) rfl rfl (eff_ro (ro_toStr Tryd.underlying28 Tryd.underlying5 Tryd.underlying9 rfl (Vw.pick 0 rfl Vw.row) rfl)) rfl ?_
            rintro _ _ ⟨rfl, rfl⟩
            refine any_ro' (i := 65) (by kernel_rfl) rfl rfl (ro_neqS rfl rfl (decide_eq_false (fun h => h rfl))) rfl (fun _ _ _ h => h) ?_
            refine any_ro' (i := 66) (by kernel_rfl) rfl rfl (ro_pick rfl rfl) rfl (fun _ _ _ h => h) ?_
            refine any_done (by kernel_rfl) ?_
            refine Then_normal ?_
            refine wp_condF rfl ?_
            refine wp_skip' ?_
            refine InBlock_normal ?_
            refine Then_normal ?_
            refine wp_region' ?_
            refine ops_ro' rfl (ro_move rfl) rfl ?_
            refine ops_ro' rfl (ro_add rfl rfl (wrap_inc (by omega))) rfl ?_
            refine ops_ro' rfl (ro_assign rfl) rfl ?_
            refine ops_nil ?_
            refine Then_normal ?_
            refine back (m4 - 1) (by omega) (kept ⟨i + 1, q8, ⟨by omega, by omega, k8, hh8⟩, rfl, rfl⟩ ?_ ?_ ?_)
            · exact (by repeat (first | exact Has.nil _ | refine Has.cons rfl ?_))
            · exact (by repeat (first | exact Has.nil _ | refine Has.cons rfl ?_))
            · exact (SubH.cons 3 rfl (SubH.cons 3 rfl (SubH.cons 4 rfl (SubH.nil _))))
        · replace hg140 := of_decide_eq_false hg140
          refine ops_skip' rfl rfl ?_
          refine ops_skip' rfl rfl ?_
          refine ops_skip' rfl rfl ?_
          refine ops_skip' rfl rfl ?_
          refine ops_ro' rfl (ro_pick rfl rfl) rfl ?_
          refine ops_nil ?_
          refine Then_normal ?_
          refine wp_condF rfl ?_
          refine wp_exit' ?_
          refine Then_exit ?_
          refine Then_exit ?_
          refine InBlock_here ?_
          refine Then_normal ?_
          refine wp_seq' ?_
          have HB : bare s = y := by rw [← hb]; first | exact bare_stop0 h0 hz | exact bare_nil0 (by omega)
          rw [decs_cons hi (by omega)] at hh
          have hh2 : Here q1 (enc2 l[i].n s (nms xs xs.length) ++ ((l.take 20).drop (i + 1)).flatMap enc1) := by have h := hh; rw [enc1, show ps l[i] = s from hss, show px l[i] = xs from hxs] at h; exact h
          obtain ⟨q8, ⟨⟨t1, t2, t3, t4, t5, t6, t7, g1, g2, g3, g4, g5, g6, g7, g8⟩, hh8⟩⟩ := back_reads hh2 (by omega) hsl (nms_all _ _) hnj
          have k1 : t1.Good := by have h := R.good_get hg 1; rw [g1] at h; exact h
          have k2 : t2.Good := by have h := R.good_get k1 4; rw [g2] at h; exact h
          have k3 : t3.Good := by have h := R.good_get k2 8; rw [g3] at h; exact h
          have k4 : t4.Good := by have h := R.good_text k3 (s.length : Nat); rw [g4] at h; exact h
          have k5 : t5.Good := by have h := R.good_mp k4 201; rw [g5] at h; exact h
          have k6 : t6.Good := by have h := R.good_lst k5; rw [g6] at h; exact h
          have k7 : t7.Good := by have h := R.good_get k6 1; rw [g7] at h; exact h
          have k8 : q8.Good := by have h := R.good_take k7 (s.length : Nat); rw [g8] at h; exact h
          refine wp_draw 67 (by kernel_rfl) (Split.cons 0 rfl (Split.cons 1 rfl (Split.nil _))) ?_
          refine any_ro' (i := 0) (by kernel_rfl) rfl rfl (ro_move rfl) rfl (fun _ _ _ h => h) ?_
          refine any_ro' (i := 2) (by kernel_rfl) rfl rfl (ro_fieldAddr fa40_1 rfl) rfl (fun _ _ _ h => h) ?_
          refine any_ro' (i := 3) (by kernel_rfl) rfl rfl (ro_load sc38 rfl (Rd.pick 1 rfl (Rd.own rfl))) rfl (fun _ _ _ h => h) ?_
          refine any_ro' (i := 4) (by kernel_rfl) rfl rfl (ro_rem rfl rfl (by omega) (show ((l[i].n : Nat) : Int).tmod 256 = ((l[i].n % 256 : Nat) : Int) from by rw [Int.tmod_eq_emod_of_nonneg (by omega)]; omega)) rfl (fun _ _ _ h => h) ?_
          refine any_ro' (i := 5) (by kernel_rfl) rfl rfl (ro_conv Tryd.underlying38 Tryd.underlying3 rfl (wrap_i64_in (by omega) (by omega))) rfl (fun _ _ _ h => h) ?_
          refine any_eff' (i := 1) (by kernel_rfl) rfl rfl (eff_call Tryd.call25 rfl rfl (by repeat (first | exact Split.nil _ | apply Split.cons 0 rfl | apply Split.cons 1 rfl | apply Split.cons 2 rfl | apply Split.cons 3 rfl | apply Split.cons 4 rfl | apply Split.cons 5 rfl | apply Split.cons 6 rfl | apply Split.cons 7 rfl | apply Split.cons 8 rfl | apply Split.cons 9 rfl | apply Split.cons 10 rfl | apply Split.cons 11 rfl)) (rByte_spec pr p3 c3 q1 hg)) rfl ?_
          rintro _ H' ⟨_, ⟨rfl, rfl⟩, hH⟩
          simp only [List.cons_append, List.nil_append, List.eraseIdx_cons_zero, List.eraseIdx_cons_succ, List.set_cons_zero, List.set_cons_succ] at hH
          subst hH
          rw [g1]
          dsimp only
          refine any_ro' (i := 6) (by kernel_rfl) rfl rfl (ro_neq rfl rfl (decide_eq_false (by omega))) rfl (fun _ _ _ h => h) ?_
          refine any_ro' (i := 7) (by kernel_rfl) rfl rfl (ro_move (v := .bool false) rfl) rfl (fun _ _ _ h => h) ?_
          refine any_ro' (i := 8) (by kernel_rfl) rfl rfl (ro_move rfl) rfl (fun _ _ _ h => h) ?_
          refine any_ro' (i := 10) (by kernel_rfl) rfl rfl (ro_fieldAddr fa40_1 rfl) rfl (fun _ _ _ h => h) ?_
          refine any_ro' (i := 11) (by kernel_rfl) rfl rfl (ro_load sc38 rfl (Rd.pick 1 rfl (Rd.own rfl))) rfl (fun _ _ _ h => h) ?_
          refine any_ro' (i := 12) (by kernel_rfl) rfl rfl (ro_conv Tryd.underlying38 Tryd.underlying44 rfl (conv32 l[i].n)) rfl (fun _ _ _ h => h) ?_
          refine any_eff' (i := 9) (by kernel_rfl) rfl rfl (eff_call Tryd.call26 rfl rfl (by repeat (first | exact Split.nil _ | apply Split.cons 0 rfl | apply Split.cons 1 rfl | apply Split.cons 2 rfl | apply Split.cons 3 rfl | apply Split.cons 4 rfl | apply Split.cons 5 rfl | apply Split.cons 6 rfl | apply Split.cons 7 rfl | apply Split.cons 8 rfl | apply Split.cons 9 rfl | apply Split.cons 10 rfl | apply Split.cons 11 rfl)) (rU32_spec pr p3 c3 t1 k1.len k1.pos)) rfl ?_
          rintro _ H' ⟨_, ⟨rfl, rfl⟩, hH⟩
          simp only [List.cons_append, List.nil_append, List.eraseIdx_cons_zero, List.eraseIdx_cons_succ, List.set_cons_zero, List.set_cons_succ] at hH
          subst hH
          rw [g2]
          dsimp only
          refine any_ro' (i := 13) (by kernel_rfl) rfl rfl (ro_neq rfl rfl (decide_eq_false (by omega))) rfl (fun _ _ _ h => h) ?_
          refine any_ro' (i := 14) (by kernel_rfl) rfl rfl (ro_pick rfl rfl) rfl (fun _ _ _ h => h) ?_
          refine any_ro' (i := 15) (by kernel_rfl) rfl rfl (ro_move (v := .bool false) rfl) rfl (fun _ _ _ h => h) ?_
          refine any_ro' (i := 16) (by kernel_rfl) rfl rfl (ro_move rfl) rfl (fun _ _ _ h => h) ?_
          refine any_ro' (i := 18) (by kernel_rfl) rfl rfl (ro_fieldAddr fa40_1 rfl) rfl (fun _ _ _ h => h) ?_
          refine any_ro' (i := 19) (by kernel_rfl) rfl rfl (ro_load sc38 rfl (Rd.pick 1 rfl (Rd.own rfl))) rfl (fun _ _ _ h => h) ?_
          refine any_eff' (i := 17) (by kernel_rfl) rfl rfl (eff_call Tryd.call27 rfl rfl (by repeat (first | exact Split.nil _ | apply Split.cons 0 rfl | apply Split.cons 1 rfl | apply Split.cons 2 rfl | apply Split.cons 3 rfl | apply Split.cons 4 rfl | apply Split.cons 5 rfl | apply Split.cons 6 rfl | apply Split.cons 7 rfl | apply Split.cons 8 rfl | apply Split.cons 9 rfl | apply Split.cons 10 rfl | apply Split.cons 11 rfl)) (rU64_spec pr p3 c3 t2 k2.len k2.pos)) rfl ?_
          rintro _ H' ⟨_, ⟨rfl, rfl⟩, hH⟩
          simp only [List.cons_append, List.nil_append, List.eraseIdx_cons_zero, List.eraseIdx_cons_succ, List.set_cons_zero, List.set_cons_succ] at hH
          subst hH
          rw [g3]
          dsimp only
          refine any_ro' (i := 20) (by kernel_rfl) rfl rfl (ro_neq rfl rfl (decide_eq_false (by omega))) rfl (fun _ _ _ h => h) ?_
          refine any_ro' (i := 21) (by kernel_rfl) rfl rfl (ro_pick rfl rfl) rfl (fun _ _ _ h => h) ?_
          refine any_ro' (i := 22) (by kernel_rfl) rfl rfl (ro_move (v := .bool false) rfl) rfl (fun _ _ _ h => h) ?_
          refine any_ro' (i := 23) (by kernel_rfl) rfl rfl (ro_move rfl) rfl (fun _ _ _ h => h) ?_
          refine any_ro' (i := 24) (by kernel_rfl) rfl rfl (ro_fieldAddr fa40_2 rfl) rfl (fun _ _ _ h => h) ?_
          refine any_ro' (i := 25) (by kernel_rfl) rfl rfl (ro_load sc9 rfl (Rd.pick 1 rfl (Rd.own rfl))) rfl (fun _ _ _ h => h) ?_
          refine any_ro' (i := 26) (by kernel_rfl) rfl rfl (ro_lenS (t' := 0) Tryd.underlying9 rfl) rfl (fun _ _ _ h => h) ?_
          refine any_ro' (i := 28) (by kernel_rfl) rfl rfl (ro_fieldAddr fa40_2 rfl) rfl (fun _ _ _ h => h) ?_
          refine any_ro' (i := 29) (by kernel_rfl) rfl rfl (ro_load sc9 rfl (Rd.pick 1 rfl (Rd.own rfl))) rfl (fun _ _ _ h => h) ?_
          refine any_eff' (i := 27) (by kernel_rfl) rfl rfl (eff_call Tryd.call28 rfl rfl (by repeat (first | exact Split.nil _ | apply Split.cons 0 rfl | apply Split.cons 1 rfl | apply Split.cons 2 rfl | apply Split.cons 3 rfl | apply Split.cons 4 rfl | apply Split.cons 5 rfl | apply Split.cons 6 rfl | apply Split.cons 7 rfl | apply Split.cons 8 rfl | apply Split.cons 9 rfl | apply Split.cons 10 rfl | apply Split.cons 11 rfl)) (rText_spec pr p3 c3 t3 k3 (s.length : Nat) (by omega))) rfl ?_
          rintro _ H' ⟨_, ⟨rfl, rfl⟩, hH⟩
          simp only [List.cons_append, List.nil_append, List.eraseIdx_cons_zero, List.eraseIdx_cons_succ, List.set_cons_zero, List.set_cons_succ] at hH
          subst hH
          rw [g4]
          dsimp only
          refine any_ro' (i := 30) (by kernel_rfl) rfl rfl (ro_neqS rfl rfl (decide_eq_false (fun h => h rfl))) rfl (fun _ _ _ h => h) ?_
          refine any_ro' (i := 31) (by kernel_rfl) rfl rfl (ro_pick rfl rfl) rfl (fun _ _ _ h => h) ?_
          refine any_ro' (i := 32) (by kernel_rfl) rfl rfl (ro_move (v := .bool false) rfl) rfl (fun _ _ _ h => h) ?_
          refine any_ro' (i := 33) (by kernel_rfl) rfl rfl (ro_move rfl) rfl (fun _ _ _ h => h) ?_
          refine any_ro' (i := 36) (by kernel_rfl) rfl rfl (ro_move rfl) rfl (fun _ _ _ h => h) ?_
          refine any_ro' (i := 37) (by kernel_rfl) rfl rfl (ro_toStr Tryd.underlying28 Tryd.underlying5 Tryd.underlying9 rfl (Vw.pick 0 rfl hv) rfl) rfl (fun _ _ _ h => h) ?_
          refine any_eff' (i := 34) (by kernel_rfl) rfl rfl (eff_call Tryd.call29 rfl rfl (by repeat (first | exact Split.nil _ | apply Split.cons 0 rfl | apply Split.cons 1 rfl | apply Split.cons 2 rfl | apply Split.cons 3 rfl | apply Split.cons 4 rfl | apply Split.cons 5 rfl | apply Split.cons 6 rfl | apply Split.cons 7 rfl | apply Split.cons 8 rfl | apply Split.cons 9 rfl | apply Split.cons 10 rfl | apply Split.cons 11 rfl)) (rMpint_spec pr p3 c3 t4 k4 201 (by omega))) rfl ?_
          rintro _ H' ⟨_, ⟨pa, ca, rfl, rfl⟩, hH⟩
          simp only [List.cons_append, List.nil_append, List.eraseIdx_cons_zero, List.eraseIdx_cons_succ, List.set_cons_zero, List.set_cons_succ] at hH
          subst hH
          rw [g5]
          dsimp only
          rw [HB]
          refine any_eff' (i := 35) (by kernel_rfl) rfl rfl (eff_ro (ro_toStr Tryd.underlying28 Tryd.underlying5 Tryd.underlying9 rfl (Vw.pick 0 rfl Vw.row) rfl)) rfl ?_
          rintro _ _ ⟨rfl, rfl⟩
          refine any_ro' (i := 38) (by kernel_rfl) rfl rfl (ro_neqS rfl rfl (decide_eq_false (fun h => h rfl))) rfl (fun _ _ _ h => h) ?_
          refine any_ro' (i := 39) (by kernel_rfl) rfl rfl (ro_pick rfl rfl) rfl (fun _ _ _ h => h) ?_
          refine any_ro' (i := 40) (by kernel_rfl) rfl rfl (ro_move (v := .bool false) rfl) rfl (fun _ _ _ h => h) ?_
          refine any_ro' (i := 41) (by kernel_rfl) rfl rfl (ro_move rfl) rfl (fun _ _ _ h => h) ?_
          refine any_ro' (i := 43) (by kernel_rfl) rfl rfl (ro_move rfl) rfl (fun _ _ _ h => h) ?_
          refine any_eff' (i := 42) (by kernel_rfl) rfl rfl (eff_call Tryd.call13 rfl rfl (by repeat (first | exact Split.nil _ | apply Split.cons 0 rfl | apply Split.cons 1 rfl | apply Split.cons 2 rfl | apply Split.cons 3 rfl | apply Split.cons 4 rfl | apply Split.cons 5 rfl | apply Split.cons 6 rfl | apply Split.cons 7 rfl | apply Split.cons 8 rfl | apply Split.cons 9 rfl | apply Split.cons 10 rfl | apply Split.cons 11 rfl)) (rNames_spec hM pr p3 c3 t5 k5)) rfl ?_
          rintro _ H' ⟨_, ⟨pb, cb, rfl, rfl⟩, hH⟩
          simp only [List.cons_append, List.nil_append, List.eraseIdx_cons_zero, List.eraseIdx_cons_succ, List.set_cons_zero, List.set_cons_succ] at hH
          subst hH
          rw [g6]
          dsimp only
          refine any_eff' (i := 44) (by kernel_rfl) rfl rfl (eff_callM (Pre := []) Tryd.call30 rfl rfl (Split.nil _) (ktexts_spec _ (nms xs xs.length) (nms xs xs.length) _ _ _ _ (by first | exact (Vw.pick 0 rfl hv) | exact (Vw.pick 1 rfl hv) | exact (Vw.pick 2 rfl hv) | exact (Vw.pick 3 rfl hv) | exact (Vw.pick 4 rfl hv) | exact (Vw.pick 5 rfl hv) | exact (Vw.pick 6 rfl hv) | exact (Vw.pick 7 rfl hv) | exact (Vw.pick 8 rfl hv) | exact (Vw.pick 9 rfl hv) | exact (Vw.pick 10 rfl hv) | exact (Vw.pick 11 rfl hv) | exact Vw.pick 0 rfl Vw.row | exact Vw.pick 1 rfl Vw.row | exact Vw.pick 2 rfl Vw.row | exact Vw.pick 3 rfl Vw.row | exact Vw.pick 4 rfl Vw.row | exact Vw.pick 5 rfl Vw.row | exact Vw.pick 6 rfl Vw.row | exact Vw.pick 7 rfl Vw.row | exact Vw.pick 8 rfl Vw.row | exact Vw.pick 9 rfl Vw.row | exact Vw.pick 10 rfl Vw.row | exact Vw.pick 11 rfl Vw.row | exact Vw.nil _ | exact Vw.empty _ _) (by first | exact (Vw.pick 0 rfl hv) | exact (Vw.pick 1 rfl hv) | exact (Vw.pick 2 rfl hv) | exact (Vw.pick 3 rfl hv) | exact (Vw.pick 4 rfl hv) | exact (Vw.pick 5 rfl hv) | exact (Vw.pick 6 rfl hv) | exact (Vw.pick 7 rfl hv) | exact (Vw.pick 8 rfl hv) | exact (Vw.pick 9 rfl hv) | exact (Vw.pick 10 rfl hv) | exact (Vw.pick 11 rfl hv) | exact Vw.pick 0 rfl Vw.row | exact Vw.pick 1 rfl Vw.row | exact Vw.pick 2 rfl Vw.row | exact Vw.pick 3 rfl Vw.row | exact Vw.pick 4 rfl Vw.row | exact Vw.pick 5 rfl Vw.row | exact Vw.pick 6 rfl Vw.row | exact Vw.pick 7 rfl Vw.row | exact Vw.pick 8 rfl Vw.row | exact Vw.pick 9 rfl Vw.row | exact Vw.pick 10 rfl Vw.row | exact Vw.pick 11 rfl Vw.row | exact Vw.nil _ | exact Vw.empty _ _) (by omega))) rfl ?_
          rintro _ H' ⟨_, ⟨rfl, rfl⟩, hH⟩
          simp only [List.cons_append, List.nil_append, List.eraseIdx_cons_zero, List.eraseIdx_cons_succ, List.set_cons_zero, List.set_cons_succ] at hH
          subst hH
          rw [decide_eq_true rfl]
          refine any_ro' (i := 45) (by kernel_rfl) rfl rfl (ro_not rfl rfl) rfl (fun _ _ _ h => h) ?_
          refine any_ro' (i := 46) (by kernel_rfl) rfl rfl (ro_pick rfl rfl) rfl (fun _ _ _ h => h) ?_
          refine any_ro' (i := 47) (by kernel_rfl) rfl rfl (ro_move (v := .bool false) rfl) rfl (fun _ _ _ h => h) ?_
          refine any_ro' (i := 48) (by kernel_rfl) rfl rfl (ro_move rfl) rfl (fun _ _ _ h => h) ?_
          refine any_ro' (i := 50) (by kernel_rfl) rfl rfl (ro_fieldAddr fa40_1 rfl) rfl (fun _ _ _ h => h) ?_
          refine any_ro' (i := 51) (by kernel_rfl) rfl rfl (ro_load sc38 rfl (Rd.pick 1 rfl (Rd.own rfl))) rfl (fun _ _ _ h => h) ?_
          refine any_ro' (i := 52) (by kernel_rfl) rfl rfl (ro_rem rfl rfl (by omega) (show ((l[i].n : Nat) : Int).tmod 2 = ((l[i].n % 2 : Nat) : Int) from by rw [Int.tmod_eq_emod_of_nonneg (by omega)]; omega)) rfl (fun _ _ _ h => h) ?_
          refine any_ro' (i := 53) (by kernel_rfl) rfl rfl (ro_eql rfl rfl rfl) rfl (fun _ _ _ h => h) ?_
          refine any_eff' (i := 49) (by kernel_rfl) rfl rfl (eff_call Tryd.call31 rfl rfl (by repeat (first | exact Split.nil _ | apply Split.cons 0 rfl | apply Split.cons 1 rfl | apply Split.cons 2 rfl | apply Split.cons 3 rfl | apply Split.cons 4 rfl | apply Split.cons 5 rfl | apply Split.cons 6 rfl | apply Split.cons 7 rfl | apply Split.cons 8 rfl | apply Split.cons 9 rfl | apply Split.cons 10 rfl | apply Split.cons 11 rfl)) (rBool_spec pr p3 c3 t6 k6)) rfl ?_
          rintro _ H' ⟨_, ⟨rfl, rfl⟩, hH⟩
          simp only [List.cons_append, List.nil_append, List.eraseIdx_cons_zero, List.eraseIdx_cons_succ, List.set_cons_zero, List.set_cons_succ] at hH
          subst hH
          rw [g7]
          dsimp only
          rw [bool_in]
          refine any_ro' (i := 54) (by kernel_rfl) rfl rfl (ro_neq_bool Tryd.underlying4 rfl rfl (c := false) (by simp)) rfl (fun _ _ _ h => h) ?_
          refine any_ro' (i := 55) (by kernel_rfl) rfl rfl (ro_pick rfl rfl) rfl (fun _ _ _ h => h) ?_
          refine any_ro' (i := 56) (by kernel_rfl) rfl rfl (ro_move (v := .bool false) rfl) rfl (fun _ _ _ h => h) ?_
          refine any_ro' (i := 57) (by kernel_rfl) rfl rfl (ro_move rfl) rfl (fun _ _ _ h => h) ?_
          refine any_ro' (i := 58) (by kernel_rfl) rfl rfl (ro_fieldAddr fa40_2 rfl) rfl (fun _ _ _ h => h) ?_
          refine any_ro' (i := 59) (by kernel_rfl) rfl rfl (ro_load sc9 rfl (Rd.pick 1 rfl (Rd.own rfl))) rfl (fun _ _ _ h => h) ?_
          refine any_ro' (i := 60) (by kernel_rfl) rfl rfl (ro_lenS (t' := 0) Tryd.underlying9 rfl) rfl (fun _ _ _ h => h) ?_
          refine any_ro' (i := 63) (by kernel_rfl) rfl rfl (ro_fieldAddr fa40_2 rfl) rfl (fun _ _ _ h => h) ?_
          refine any_ro' (i := 64) (by kernel_rfl) rfl rfl (ro_load sc9 rfl (Rd.pick 1 rfl (Rd.own rfl))) rfl (fun _ _ _ h => h) ?_
          refine any_eff' (i := 61) (by kernel_rfl) rfl rfl (eff_call Tryd.call32 rfl rfl (by repeat (first | exact Split.nil _ | apply Split.cons 0 rfl | apply Split.cons 1 rfl | apply Split.cons 2 rfl | apply Split.cons 3 rfl | apply Split.cons 4 rfl | apply Split.cons 5 rfl | apply Split.cons 6 rfl | apply Split.cons 7 rfl | apply Split.cons 8 rfl | apply Split.cons 9 rfl | apply Split.cons 10 rfl | apply Split.cons 11 rfl)) (rRaw_spec pr p3 c3 t7 k7 (s.length : Nat))) rfl ?_
          rintro _ H' ⟨_, ⟨_, ⟨pc, cc, rfl, _, rfl⟩, rfl⟩, hH⟩
          simp only [List.cons_append, List.nil_append, List.eraseIdx_cons_zero, List.eraseIdx_cons_succ, List.set_cons_zero, List.set_cons_succ] at hH
          subst hH
          rw [g8]
          dsimp only
          refine any_eff' (i := 62) (by kernel_rfl) rfl rfl (eff_ro (ro_toStr Tryd.underlying28 Tryd.underlying5 Tryd.underlying9 rfl (Vw.pick 0 rfl Vw.row) rfl)) rfl ?_
          rintro _ _ ⟨rfl, rfl⟩
          refine any_ro' (i := 65) (by kernel_rfl) rfl rfl (ro_neqS rfl rfl (decide_eq_false (fun h => h rfl))) rfl (fun _ _ _ h => h) ?_
          refine any_ro' (i := 66) (by kernel_rfl) rfl rfl (ro_pick rfl rfl) rfl (fun _ _ _ h => h) ?_
          refine any_done (by kernel_rfl) ?_
          refine Then_normal ?_
          refine wp_condF rfl ?_
          refine wp_skip' ?_
          refine InBlock_normal ?_
          refine Then_normal ?_
          refine wp_region' ?_
          refine ops_ro' rfl (ro_move rfl) rfl ?_
          refine ops_ro' rfl (ro_add rfl rfl (wrap_inc (by omega))) rfl ?_
          refine ops_ro' rfl (ro_assign rfl) rfl ?_
          refine ops_nil ?_
          refine Then_normal ?_
          refine back (m4 - 1) (by omega) (kept ⟨i + 1, q8, ⟨by omega, by omega, k8, hh8⟩, rfl, rfl⟩ ?_ ?_ ?_)
          · exact (by repeat (first | exact Has.nil _ | refine Has.cons rfl ?_))
          · exact (by repeat (first | exact Has.nil _ | refine Has.cons rfl ?_))
          · exact (SubH.cons 3 rfl (SubH.cons 3 rfl (SubH.cons 4 rfl (SubH.nil _))))
    · replace hg102 := of_decide_eq_false hg102
      refine ops_skip' rfl rfl ?_
      refine ops_skip' rfl rfl ?_
      refine ops_ro' rfl (ro_pick rfl rfl) rfl ?_
      refine ops_nil ?_
      refine Then_normal ?_
      refine wp_condF rfl ?_
      refine wp_exit' ?_
      refine Then_exit ?_
      refine Then_exit ?_
      refine InBlock_here ?_
      refine Then_normal ?_
      refine wp_seq' ?_
      have hfin : q1.fin = ((0 : Int), (0 : Int)) := here_fin (by
        have e : (l.take 20).drop i = [] := List.drop_eq_nil_iff.2 (by rw [List.length_take]; omega)
        rw [e] at hh; exact hh)
      refine wp_region' ?_
      refine ops_ro' rfl (ro_move rfl) rfl ?_
      refine ops_eff' rfl (eff_call Tryd.call14 rfl rfl (by repeat (first | exact Split.nil _ | apply Split.cons 0 rfl | apply Split.cons 1 rfl | apply Split.cons 2 rfl | apply Split.cons 3 rfl | apply Split.cons 4 rfl | apply Split.cons 5 rfl | apply Split.cons 6 rfl | apply Split.cons 7 rfl | apply Split.cons 8 rfl | apply Split.cons 9 rfl | apply Split.cons 10 rfl | apply Split.cons 11 rfl)) (end_spec pr p3 c3 q1 hg.len hg.pos)) rfl ?_
      rintro _ H' ⟨_, ⟨rfl, rfl⟩, hH⟩
      simp only [List.cons_append, List.nil_append, List.eraseIdx_cons_zero, List.eraseIdx_cons_succ, List.set_cons_zero, List.set_cons_succ] at hH
      subst hH
      rw [hfin]
      refine ops_ro' rfl (ro_move rfl) rfl ?_
      refine ops_ro' rfl (ro_extract rfl rfl) rfl ?_
      refine ops_ro' rfl (ro_extract rfl rfl) rfl ?_
      refine ops_ro' rfl (ro_assign rfl) rfl ?_
      refine ops_ro' rfl (ro_assign rfl) rfl ?_
      refine ops_nil ?_
      refine Then_normal ?_
      refine wp_seq' ?_
      refine wp_region' ?_
      refine ops_ro' rfl (ro_move rfl) rfl ?_
      refine ops_ro' rfl (ro_eql rfl rfl (decide_eq_true (by omega))) rfl ?_
      refine ops_ro' rfl (ro_move (v := .bool true) rfl) rfl ?_
      refine ops_eff' rfl (eff_call Tryd.call15 rfl rfl (by repeat (first | exact Split.nil _ | apply Split.cons 0 rfl | apply Split.cons 1 rfl | apply Split.cons 2 rfl | apply Split.cons 3 rfl | apply Split.cons 4 rfl | apply Split.cons 5 rfl | apply Split.cons 6 rfl | apply Split.cons 7 rfl | apply Split.cons 8 rfl | apply Split.cons 9 rfl | apply Split.cons 10 rfl | apply Split.cons 11 rfl)) (known1_spec)) rfl ?_
      rintro _ H' ⟨_, ⟨rfl, rfl⟩, hH⟩
      simp only [List.cons_append, List.nil_append, List.eraseIdx_cons_zero, List.eraseIdx_cons_succ, List.set_cons_zero, List.set_cons_succ] at hH
      subst hH
      refine ops_ro' rfl (ro_pick rfl rfl) rfl ?_
      refine ops_ro' rfl (ro_assign rfl) rfl ?_
      refine ops_nil ?_
      refine Then_normal ?_
      refine wp_ret' ?_
      refine' doneS_ret (res1 rfl rfl) ?_ ?_
      rotate_left 1
      exact ⟨rfl, rfl⟩
      exact (SubH.cons 2 rfl (SubH.nil _))

end Go.Proofs.YtbiohhfibkolgaaDoor
