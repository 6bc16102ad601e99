/-
  The walk of WireReads.
-/
import Derived.Test.YtbiohhfibkolgaaDoorPut
import Derived.Test.YtbiohhfibkolgaaDoorOpenPt
import Derived.Test.YtbiohhfibkolgaaDoorBook
import Derived.Test.YtbiohhfibkolgaaDoorNames
namespace Go.Proofs.YtbiohhfibkolgaaDoor
open Go.Sx
set_option linter.unusedVariables false
set_option linter.unusedSimpArgs false
set_option maxRecDepth 100000
set_option maxHeartbeats 4000000

theorem few2_66 (xs : List (List UInt8)) : ∀ y ∈ few2 xs 66, y.length ≤ 66 := fun y hy => by
  obtain ⟨x, _, rfl⟩ := List.mem_map.1 hy
  rw [List.length_take]; omega
theorem few2_n (xs : List (List UInt8)) : (few2 (xs.take 8) 66).length ≤ 8 := by rw [few2, List.length_map, List.length_take]; omega
theorem joinc_le : ∀ (l : List (List UInt8)), (∀ x ∈ l, x.length ≤ 66) → (joinc 44 l).length ≤ 67 * l.length
  | [], h => by simp [joinc]
  | [x], h => by have := h x (by simp); simp only [joinc, List.length_cons, List.length_nil]; omega
  | x :: y :: r, h => by
    have h1 := joinc_le (y :: r) fun z hz => h z (List.mem_cons_of_mem _ hz)
    have h2 := h x (by simp)
    rw [joinc_cons 44 x (by simp)]
    simp only [List.length_append, List.length_cons] at h1 ⊢; omega
theorem few2_j (xs : List (List UInt8)) (i : Nat) : (joinc 44 ((few2 (xs.take 8) 66).take i)).length ≤ 700 := by
  have h1 := joinc_le ((few2 (xs.take 8) 66).take i) fun x hx => few2_66 _ x (List.mem_of_mem_take hx)
  have h2 := few2_n xs
  rw [List.length_take] at h1; omega
theorem packT {A B : List HProp} {w : World} {F : HProp} (s : sat w (star (St (A ++ B)) F)) : sat w (star (St (A ++ [St B])) F) := by
  rw [St_append] at s ⊢; rw [St_cons, St_nil, star_emp]; exact s
theorem unpack {L : List HProp} {w : World} {F : HProp} (s : sat w (star (St [St L]) F)) : sat w (star (St L) F) := by rw [St_cons, St_nil, star_emp] at s; exact s
theorem wreads_run (V : HProp) (hM : Ml V) (p0 : Option Addr) (c0 : Nat) (b : List UInt8) (hV : Vw V (.slice p0 b.length c0) b.length (cel b)) (hc : b.length ≤ c0) (q : Option Addr) (cq : Nat) (l : List Pt) (hL : Vw V (.slice q l.length cq) l.length (flat Pt.cs l)) (hP : ∀ x ∈ l, x.Ok V)
    (q2 : Option Addr) (cq2 : Nat) (l2 : List Pt) (hL2 : Vw V (.slice q2 l2.length cq2) l2.length (flat Pt.cs l2)) (at' : Int) (turn : UInt8) :
    Tri Tryd.prog 7 [.slice p0 b.length c0, .slice q l.length cq, .slice q2 l2.length cq2, .int .i64 at', .int .u8 (turn.toNat : Int)] [V] (fun v H' => v = .bool true ∧ H' = [V]) := by
  refine tri_of_wpS Tryd.func7 rfl Tryd.ntmps7 (by simp) ?_
  refine wp_seq' ?_
  refine wp_region' ?_
  refine ops_ro' rfl (ro_assign rfl) rfl ?_
  refine ops_nil ?_
  refine Then_normal ?_
  refine wp_seq' ?_
  refine wp_region' ?_
  refine ops_eff' rfl (eff_call Tryd.call9 rfl rfl (by repeat (first | exact Split.nil _ | apply Split.cons 0 rfl | apply Split.cons 1 rfl | apply Split.cons 2 rfl | apply Split.cons 3 rfl | apply Split.cons 4 rfl | apply Split.cons 5 rfl | apply Split.cons 6 rfl | apply Split.cons 7 rfl | apply Split.cons 8 rfl | apply Split.cons 9 rfl | apply Split.cons 10 rfl | apply Split.cons 11 rfl)) (newWriter_spec)) rfl ?_
  rintro _ H' ⟨_, ⟨pw, rfl, rfl⟩, hH⟩
  simp only [List.cons_append, List.nil_append, List.eraseIdx_cons_zero, List.eraseIdx_cons_succ, List.set_cons_zero, List.set_cons_succ] at hH
  subst hH
  refine ops_ro' rfl (ro_assign rfl) rfl ?_
  refine ops_nil ?_
  refine Then_normal ?_
  refine wp_seq' ?_
  refine wp_seq' ?_
  refine wp_region' ?_
  refine ops_ro' rfl (ro_move rfl) rfl ?_
  refine ops_ro' rfl (ro_ptrEqlNil Tryd.underlying23 rfl rfl rfl) rfl ?_
  refine ops_nil ?_
  refine Then_normal ?_
  refine wp_condF rfl ?_
  refine wp_skip' ?_
  refine Then_normal ?_
  refine wp_seq' ?_
  refine wp_region' ?_
  refine ops_ro' rfl (ro_assign rfl) rfl ?_
  refine ops_nil ?_
  refine Then_normal ?_
  refine wp_seq' ?_
  refine wp_seq' ?_
  refine wp_region' ?_
  refine ops_ro' rfl (ro_assign rfl) rfl ?_
  refine ops_nil ?_
  refine Then_normal ?_
  refine wp_block' ?_
  refine wp_loopK 6 (fun m Δ LL => ∃ (i : Nat) (pp : Option Addr) (cp : Nat) (a : List UInt8) (p : Option Addr) (c : Nat) (acc : List UInt8), (i + m = l.length ∧ i ≤ 20 ∧ a.length ≤ 1000 * i ∧ acc.length ≤ 1000 * i) ∧ Δ = [(12, .slice p acc.length c), (13, .int .i64 (i : Nat))] ∧ LL = [row 5 1 (.slice p acc.length c) acc.length (cel acc)] ++ wr pw pp cp a ++ [V]) (m := l.length) (Has.cons (k := 0) rfl (Has.cons (k := 1) rfl (Has.cons (k := 2) rfl (Has.cons (k := 3) rfl (Has.cons (k := 4) rfl (Has.cons (k := 11) rfl (Has.nil _))))))) (kept ⟨0, none, 0, [], none, 0, [], ⟨by omega, by omega, by simp, by simp⟩, rfl, rfl⟩ (by repeat (first | exact Has.nil _ | refine Has.cons rfl ?_)) (by repeat (first | exact Has.nil _ | refine Has.cons rfl ?_)) (by repeat (first | exact SubH.nil _ | refine SubH.cons 0 rfl ?_ | refine SubH.cons 1 rfl ?_ | refine SubH.cons 2 rfl ?_ | refine SubH.cons 3 rfl ?_ | refine SubH.cons 4 rfl ?_ | refine SubH.cons 5 rfl ?_ | refine SubH.cons 6 rfl ?_ | refine SubH.cons 7 rfl ?_ | refine SubH.cons 8 rfl ?_ | refine SubH.cons 9 rfl ?_ | refine SubH.cons 10 rfl ?_ | refine SubH.cons 11 rfl ?_ | refine SubH.cons 12 rfl ?_ | refine SubH.cons 13 rfl ?_ | refine SubH.rown ?_))) ?_
  rintro m Δ LL ⟨i, pp, cp, a, p, c, acc, ⟨hm, hi20, ha, hacc⟩, rfl, rfl⟩
  simp only [List.cons_append, List.nil_append]
  refine wp_seq' ?_
  refine wp_seq' ?_
  refine wp_region' ?_
  refine ops_ro' rfl (ro_move rfl) rfl ?_
  refine ops_ro' rfl (ro_move rfl) rfl ?_
  refine ops_ro' rfl (ro_sliceLen Tryd.underlying37 rfl) rfl ?_
  refine ops_ro' rfl (ro_lss rfl rfl rfl) rfl ?_
  refine ops_split rfl rfl rfl (fun hg26 => ?_) (fun hg26 => ?_)
  · replace hg26 := of_decide_eq_true hg26
    have hi : i < l.length := by omega
    have hok := hP l[i] (List.getElem_mem hi)
    refine ops_know (fun w F s => vw_ptr (Vw.pick (H := [_, _, _, V]) 3 rfl hL) s (by omega)) ?_
    rintro ⟨b1, o1, rfl⟩
    refine ops_ro' rfl (ro_move rfl) rfl ?_
    refine ops_ro' rfl (ro_lss rfl rfl rfl) rfl ?_
    refine ops_ro' rfl (ro_pick rfl rfl) rfl ?_
    refine ops_nil ?_
    refine Then_normal ?_
    refine wp_cond' rfl (fun hc29 => ?_) (fun hc29 => ?_)
    · replace hc29 := of_decide_eq_true hc29
      refine wp_skip' ?_
      refine Then_normal ?_
      refine wp_seq' ?_
      refine wp_block' ?_
      refine wp_region' ?_
      refine ops_ro' rfl (ro_move rfl) rfl ?_
      refine ops_ro' rfl (ro_move rfl) rfl ?_
      refine ops_ro' rfl (ro_move rfl) rfl ?_
      refine ops_ro' rfl (ro_move rfl) rfl ?_
      refine ops_ro' rfl (ro_indexSlice sl37 rfl rfl rfl (by omega)) rfl ?_
      refine ops_ro' rfl (ro_loadA ag40 rfl (RdN.of_pick 3 rfl ((RdN.elem (vw_rdn hL) Pt.len (List.getElem?_eq_getElem hi)))) rfl) rfl ?_
      refine ops_eff' rfl (eff_call Tryd.call16 rfl rfl (by repeat (first | exact Split.nil _ | apply Split.cons 0 rfl | apply Split.cons 1 rfl | apply Split.cons 2 rfl | apply Split.cons 3 rfl | apply Split.cons 4 rfl | apply Split.cons 5 rfl | apply Split.cons 6 rfl | apply Split.cons 7 rfl | apply Split.cons 8 rfl | apply Split.cons 9 rfl | apply Split.cons 10 rfl | apply Split.cons 11 rfl)) (short_spec V l[i].kind l[i].n l[i].s l[i].l l[i].p l[i].c hok.vw (by have := hok.cap; simp only [maxLen] at this; omega))) rfl ?_
      rintro _ H' ⟨_, ⟨_, ⟨p3, c3, rfl, rfl⟩, rfl⟩, hH⟩
      simp only [List.cons_append, List.nil_append, List.eraseIdx_cons_zero, List.eraseIdx_cons_succ, List.set_cons_zero, List.set_cons_succ] at hH
      subst hH
      refine ops_know (fun w F s => row_caps 0 rfl s) ?_
      intro hc3
      refine ops_eff' rfl (eff_callM (Pre := [_, _]) Tryd.call38 rfl rfl (by repeat (first | exact Split.nil _ | apply Split.cons 0 rfl | apply Split.cons 1 rfl | apply Split.cons 2 rfl | apply Split.cons 3 rfl | apply Split.cons 4 rfl | apply Split.cons 5 rfl | apply Split.cons 6 rfl | apply Split.cons 7 rfl | apply Split.cons 8 rfl | apply Split.cons 9 rfl | apply Split.cons 10 rfl | apply Split.cons 11 rfl)) (lput_spec pw pp cp a (by omega) p c acc (by first | exact (Vw.pick 0 rfl hv1) | exact (Vw.pick 1 rfl hv1) | exact (Vw.pick 2 rfl hv1) | exact (Vw.pick 3 rfl hv1) | exact (Vw.pick 4 rfl hv1) | exact (Vw.pick 5 rfl hv1) | exact (Vw.pick 6 rfl hv1) | exact (Vw.pick 7 rfl hv1) | exact (Vw.pick 8 rfl hv1) | exact (Vw.pick 9 rfl hv1) | exact (Vw.pick 10 rfl hv1) | exact (Vw.pick 11 rfl hv1) | exact Vw.pick 0 rfl Vw.row | exact Vw.pick 1 rfl Vw.row | exact Vw.pick 2 rfl Vw.row | exact Vw.pick 3 rfl Vw.row | exact Vw.pick 4 rfl Vw.row | exact Vw.pick 5 rfl Vw.row | exact Vw.pick 6 rfl Vw.row | exact Vw.pick 7 rfl Vw.row | exact Vw.pick 8 rfl Vw.row | exact Vw.pick 9 rfl Vw.row | exact Vw.pick 10 rfl Vw.row | exact Vw.pick 11 rfl Vw.row | exact Vw.nil _ | exact Vw.empty _ _) (by omega) l[i].kind l[i].n (by have := hok.n; omega) (l[i].s.take 200) (by rw [List.length_take]; omega) (few2 (l[i].l.take 8) 66) p3 c3 (by first | exact (Vw.pick 0 rfl hv1) | exact (Vw.pick 1 rfl hv1) | exact (Vw.pick 2 rfl hv1) | exact (Vw.pick 3 rfl hv1) | exact (Vw.pick 4 rfl hv1) | exact (Vw.pick 5 rfl hv1) | exact (Vw.pick 6 rfl hv1) | exact (Vw.pick 7 rfl hv1) | exact (Vw.pick 8 rfl hv1) | exact (Vw.pick 9 rfl hv1) | exact (Vw.pick 10 rfl hv1) | exact (Vw.pick 11 rfl hv1) | exact Vw.pick 0 rfl Vw.row | exact Vw.pick 1 rfl Vw.row | exact Vw.pick 2 rfl Vw.row | exact Vw.pick 3 rfl Vw.row | exact Vw.pick 4 rfl Vw.row | exact Vw.pick 5 rfl Vw.row | exact Vw.pick 6 rfl Vw.row | exact Vw.pick 7 rfl Vw.row | exact Vw.pick 8 rfl Vw.row | exact Vw.pick 9 rfl Vw.row | exact Vw.pick 10 rfl Vw.row | exact Vw.pick 11 rfl Vw.row | exact Vw.nil _ | exact Vw.empty _ _) hc3 (few2_n _) (few2_j _) (few2_66 _))) rfl ?_
      rintro _ H' ⟨_, ⟨e, a', pp', cp', p', c', rfl, he, ha', rfl⟩, hH⟩
      simp only [List.cons_append, List.nil_append, List.eraseIdx_cons_zero, List.eraseIdx_cons_succ, List.set_cons_zero, List.set_cons_succ] at hH
      subst hH
      refine ops_ro' rfl (ro_assign rfl) rfl ?_
      refine ops_nil ?_
      refine InBlock_normal ?_
      refine Then_normal ?_
      refine wp_region' ?_
      refine ops_ro' rfl (ro_move rfl) rfl ?_
      refine ops_ro' rfl (ro_add rfl rfl (wrap_inc (by omega))) rfl ?_
      refine ops_ro' rfl (ro_assign rfl) rfl ?_
      refine ops_nil ?_
      refine Then_normal ?_
      refine back (m - 1) (by omega) (kept ⟨i + 1, pp', cp', a', p', c', acc ++ e, ⟨by omega, by omega, by omega, by rw [List.length_append]; omega⟩, rfl, rfl⟩ ?_ ?_ ?_)
      · exact (by repeat (first | exact Has.nil _ | refine Has.cons rfl ?_))
      · exact (by repeat (first | exact Has.nil _ | refine Has.cons rfl ?_))
      · exact (SubH.cons 2 rfl (SubH.cons 0 rfl (SubH.cons 0 rfl (SubH.cons 1 rfl (SubH.nil _)))))
    · replace hc29 := of_decide_eq_false hc29
      refine wp_exit' ?_
      refine Then_exit ?_
      refine Then_exit ?_
      refine InBlock_here ?_
      refine Then_normal ?_
      refine wp_cutK 1012 (fun Δ LL => ∃ (x : List UInt8), (x.length = acc.length) ∧ Δ = [] ∧ LL = [row 5 1 (.slice p acc.length c) acc.length (cel x)] ++ wr pw pp cp a ++ [V]) (Has.cons (k := 0) rfl (Has.cons (k := 2) rfl (Has.cons (k := 12) rfl (Has.nil _)))) ?_ ?_
      · refine wp_seq' ?_
        refine wp_region' ?_
        refine ops_ro' rfl (ro_move rfl) rfl ?_
        refine ops_ro' rfl (ro_sliceLen Tryd.underlying28 rfl) rfl ?_
        refine ops_ro' rfl (ro_gtr rfl rfl rfl) rfl ?_
        refine ops_nil ?_
        refine Then_normal ?_
        refine wp_cond' rfl (fun hc42 => ?_) (fun hc42 => ?_)
        · replace hc42 := of_decide_eq_true hc42
          refine wp_seq' ?_
          refine wp_region' ?_
          refine ops_ro' rfl (ro_move rfl) rfl ?_
          refine ops_ro' rfl (ro_move rfl) rfl ?_
          refine ops_ro' rfl (ro_sliceLen Tryd.underlying28 rfl) rfl ?_
          refine ops_ro' rfl (ro_sub rfl rfl (show IntKind.i64.wrap ((acc.length : Int) - 1) = (acc.length : Int) - 1 by rw [wrap_i64_in (by omega) (by omega)])) rfl ?_
          refine ops_eff' rfl (eff_call Tryd.call39 rfl rfl (by repeat (first | exact Split.nil _ | apply Split.cons 0 rfl | apply Split.cons 1 rfl | apply Split.cons 2 rfl | apply Split.cons 3 rfl | apply Split.cons 4 rfl | apply Split.cons 5 rfl | apply Split.cons 6 rfl | apply Split.cons 7 rfl | apply Split.cons 8 rfl | apply Split.cons 9 rfl | apply Split.cons 10 rfl | apply Split.cons 11 rfl)) (within_spec at' 0 ((acc.length : Int) - 1) (by omega) (by omega) (by omega))) rfl ?_
          rintro _ H' ⟨_, ⟨rfl, rfl⟩, hH⟩
          simp only [List.cons_append, List.nil_append, List.eraseIdx_cons_zero, List.eraseIdx_cons_succ, List.set_cons_zero, List.set_cons_succ] at hH
          subst hH
          obtain ⟨k, hk, hkl⟩ : ∃ k : Nat, 0 + at' % ((acc.length : Int) - 1 - 0 + 1) = (k : Int) ∧ k < acc.length := ⟨(at' % ((acc.length : Int) - 1 - 0 + 1)).toNat, by have := Int.emod_nonneg at' (show (acc.length : Int) - 1 - 0 + 1 ≠ 0 by omega); omega, by have := Int.emod_nonneg at' (show (acc.length : Int) - 1 - 0 + 1 ≠ 0 by omega); have := Int.emod_lt_of_pos at' (show 0 < (acc.length : Int) - 1 - 0 + 1 by omega); omega⟩
          rw [hk]
          refine ops_ro' rfl (ro_assign rfl) rfl ?_
          refine ops_nil ?_
          refine Then_normal ?_
          refine wp_know (fun w F s => row_ptr' 0 rfl s (by omega)) ?_
          rintro ⟨bs, rfl⟩
          refine wp_region' ?_
          refine ops_ro' rfl (ro_move rfl) rfl ?_
          refine ops_ro' rfl (ro_move rfl) rfl ?_
          refine ops_ro' rfl (ro_move rfl) rfl ?_
          refine ops_ro' rfl (ro_move rfl) rfl ?_
          refine ops_ro' rfl (ro_indexSlice sl28 rfl rfl rfl (by omega)) rfl ?_
          refine ops_ro' rfl (ro_load sc5 rfl (Rd.pick 0 rfl (Rd.row (by rw [Nat.zero_add, Nat.mul_one]; exact cel_get hkl)))) rfl ?_
          refine ops_ro' rfl (ro_move rfl) rfl ?_
          refine ops_ro' rfl (ro_xor rfl rfl (xor8 _ _)) rfl ?_
          refine ops_ro' rfl (ro_indexSlice sl28 rfl rfl rfl (by omega)) rfl ?_
          refine ops_eff0 rfl (eff_storeB 0 sc5 rfl rfl (Int.natCast_nonneg _) (by have := UInt8.toNat_lt (acc[k] ^^^ turn); omega) rfl rfl hkl) rfl ?_
          rintro _ _ rfl
          simp only [List.set_cons_zero]
          refine ops_nil ?_
          refine Then_normal ?_
          refine over_cut (kept ⟨acc.set k (UInt8.ofNat (((acc[k] ^^^ turn).toNat : Nat) : Int).toNat), (by rw [List.length_set]), rfl, rfl⟩ ?_ ?_ ?_)
          · exact (by repeat (first | exact Has.nil _ | refine Has.cons rfl ?_))
          · exact (by repeat (first | exact Has.nil _ | refine Has.cons rfl ?_))
          · exact SubH.refl _
        · replace hc42 := of_decide_eq_false hc42
          refine wp_skip' ?_
          refine Then_normal ?_
          refine over_cut (kept ⟨acc, rfl, rfl, rfl⟩ ?_ ?_ ?_)
          · exact (by repeat (first | exact Has.nil _ | refine Has.cons rfl ?_))
          · exact (by repeat (first | exact Has.nil _ | refine Has.cons rfl ?_))
          · exact SubH.refl _
      · rintro Δ LL ⟨x, hx, rfl, rfl⟩
        simp only [List.cons_append, List.nil_append]
        refine wp_seq' ?_
        rw [← hx]
        refine wp_region' ?_
        refine ops_ro' rfl (ro_move rfl) rfl ?_
        refine ops_ro' rfl (ro_move rfl) rfl ?_
        refine ops_eff' rfl (eff_call Tryd.call37 rfl rfl (by repeat (first | exact Split.nil _ | apply Split.cons 0 rfl | apply Split.cons 1 rfl | apply Split.cons 2 rfl | apply Split.cons 3 rfl | apply Split.cons 4 rfl | apply Split.cons 5 rfl | apply Split.cons 6 rfl | apply Split.cons 7 rfl | apply Split.cons 8 rfl | apply Split.cons 9 rfl | apply Split.cons 10 rfl | apply Split.cons 11 rfl)) (kCut V p0 c0 b 300 hV hc)) rfl ?_
        rintro _ H' ⟨_, ⟨_, ⟨p1, c1, rfl, hv1, hc1, rfl⟩, rfl⟩, hH⟩
        simp only [List.cons_append, List.nil_append, List.eraseIdx_cons_zero, List.eraseIdx_cons_succ, List.set_cons_zero, List.set_cons_succ] at hH
        subst hH
        have hy : (b.take 300).length ≤ 300 := by simp; omega
        generalize ey : b.take 300 = y at *
        refine ops_eff' rfl (eff_appB (l2 := y) 1 sl28 (.inl ⟨5, Tryd.underlying28⟩) rfl rfl rfl (by first | exact Src.strl | exact Src.celv (Vw.pick 0 rfl hv1) | exact Src.celv (Vw.pick 1 rfl hv1) | exact Src.celv (Vw.pick 2 rfl hv1) | exact Src.celv (Vw.pick 3 rfl hv1) | exact Src.celv (Vw.pick 4 rfl hv1) | exact Src.celv (Vw.pick 5 rfl hv1) | exact Src.celv (Vw.pick 6 rfl hv1) | exact Src.celv (Vw.pick 7 rfl hv1) | exact Src.celv (Vw.pick 8 rfl hv1) | exact Src.celv (Vw.pick 9 rfl hv1) | exact Src.celv (Vw.pick 10 rfl hv1) | exact Src.celv (Vw.pick 11 rfl hv1) | exact Src.celv (Vw.pick 0 rfl Vw.row) | exact Src.celv (Vw.pick 1 rfl Vw.row) | exact Src.celv (Vw.pick 2 rfl Vw.row) | exact Src.celv (Vw.pick 3 rfl Vw.row) | exact Src.celv (Vw.pick 4 rfl Vw.row) | exact Src.celv (Vw.pick 5 rfl Vw.row) | exact Src.celv (Vw.pick 6 rfl Vw.row) | exact Src.celv (Vw.pick 7 rfl Vw.row) | exact Src.celv (Vw.pick 8 rfl Vw.row) | exact Src.celv (Vw.pick 9 rfl Vw.row) | exact Src.celv (Vw.pick 10 rfl Vw.row) | exact Src.celv (Vw.pick 11 rfl Vw.row)) (by first | omega | (simp only [List.length_append, List.length_cons, List.length_nil, List.length_take, List.length_drop] at *; omega))) rfl ?_
        rintro _ _ ⟨p60, c60, rfl, hn60, rfl⟩
        simp only [List.set_cons_zero, List.set_cons_succ]
        have hz : (x ++ y).length ≤ 20300 := by rw [List.length_append]; omega
        generalize ez : x ++ y = z at *
        refine ops_ro' rfl (ro_assign rfl) rfl ?_
        refine ops_nil ?_
        refine Then_normal ?_
        refine wp_seq' ?_
        refine wp_region' ?_
        refine ops_ro' rfl (ro_move rfl) rfl ?_
        refine ops_eff' rfl (eff_callM (Pre := []) Tryd.call40 rfl rfl (Split.nil _) (roomy_spec _ _ z (by first | exact (Vw.pick 0 rfl hv1) | exact (Vw.pick 1 rfl hv1) | exact (Vw.pick 2 rfl hv1) | exact (Vw.pick 3 rfl hv1) | exact (Vw.pick 4 rfl hv1) | exact (Vw.pick 5 rfl hv1) | exact (Vw.pick 6 rfl hv1) | exact (Vw.pick 7 rfl hv1) | exact (Vw.pick 8 rfl hv1) | exact (Vw.pick 9 rfl hv1) | exact (Vw.pick 10 rfl hv1) | exact (Vw.pick 11 rfl hv1) | exact Vw.pick 0 rfl Vw.row | exact Vw.pick 1 rfl Vw.row | exact Vw.pick 2 rfl Vw.row | exact Vw.pick 3 rfl Vw.row | exact Vw.pick 4 rfl Vw.row | exact Vw.pick 5 rfl Vw.row | exact Vw.pick 6 rfl Vw.row | exact Vw.pick 7 rfl Vw.row | exact Vw.pick 8 rfl Vw.row | exact Vw.pick 9 rfl Vw.row | exact Vw.pick 10 rfl Vw.row | exact Vw.pick 11 rfl Vw.row | exact Vw.nil _ | exact Vw.empty _ _) (by omega) 165)) rfl ?_
        rintro _ H' ⟨_, ⟨b62, rfl, rfl⟩, hH⟩
        simp only [List.cons_append, List.nil_append, List.eraseIdx_cons_zero, List.eraseIdx_cons_succ, List.set_cons_zero, List.set_cons_succ] at hH
        subst hH
        obtain ⟨f, hf⟩ : ∃ f, f = z ++ List.replicate 80 (165 : UInt8) := ⟨_, rfl⟩
        have hfl : z.length + 80 = f.length := by rw [hf]; simp
        rw [← hf, hfl]
        refine ops_ro' rfl (ro_assign rfl) rfl ?_
        refine ops_nil ?_
        refine Then_normal ?_
        refine wp_seq' ?_
        refine wp_region' ?_
        refine ops_ro' rfl (ro_move rfl) rfl ?_
        refine ops_ro' rfl (ro_move rfl) rfl ?_
        refine ops_ro' rfl (ro_sliceLen Tryd.underlying28 rfl) rfl ?_
        refine ops_eff' rfl (eff_sliceB 0 rfl sl28 rfl Vw.row rfl (bnd_of rfl rfl) (by omega) (by omega) (Nat.le_refl _)) rfl ?_
        rintro _ _ ⟨p66, rfl, hv66, hn66, rfl⟩
        have hz0 : List.take (z.length - 0) (List.drop 0 f) = z := by rw [hf]; simp
        rw [hz0] at hv66 ⊢
        refine ops_eff' rfl (eff_call Tryd.call11 rfl rfl (by repeat (first | exact Split.nil _ | apply Split.cons 0 rfl | apply Split.cons 1 rfl | apply Split.cons 2 rfl | apply Split.cons 3 rfl | apply Split.cons 4 rfl | apply Split.cons 5 rfl | apply Split.cons 6 rfl | apply Split.cons 7 rfl | apply Split.cons 8 rfl | apply Split.cons 9 rfl | apply Split.cons 10 rfl | apply Split.cons 11 rfl)) (newReader_spec _ p66 _ z hv66 (by omega))) rfl ?_
        rintro _ H' ⟨_, ⟨pr, p2, c2, rfl, rfl⟩, hH⟩
        simp only [List.cons_append, List.nil_append, List.eraseIdx_cons_zero, List.eraseIdx_cons_succ, List.set_cons_zero, List.set_cons_succ] at hH
        subst hH
        have hg0 := R.good_new z (by omega)
        have ho0 : R.On (R.new z) z := ⟨rfl, Nat.zero_le _⟩
        refine ops_ro' rfl (ro_assign rfl) rfl ?_
        refine ops_nil ?_
        refine Then_normal ?_
        refine wp_seq' ?_
        refine wp_region' ?_
        refine ops_ro' rfl (ro_move rfl) rfl ?_
        refine ops_ro' rfl (ro_build rfl (bld_struct (cs := [(.slice p60 z.length c60), .int .i64 0, .bool false, .int .i64 0, .int .i64 0]) st60 rfl)) rfl ?_
        refine ops_eff' rfl (eff_box rfl) rfl ?_
        rintro _ _ ⟨b70, rfl, rfl⟩
        refine ops_ro' rfl (ro_assign rfl) rfl ?_
        refine ops_nil ?_
        refine Then_normal ?_
        refine wp_seq' ?_
        refine wp_seq' ?_
        refine wp_region' ?_
        refine ops_ro' rfl (ro_move rfl) rfl ?_
        refine ops_ro' rfl (ro_ptrEqlNil Tryd.underlying26 rfl rfl rfl) rfl ?_
        refine ops_nil ?_
        refine Then_normal ?_
        refine wp_condF rfl ?_
        refine wp_skip' ?_
        refine Then_normal ?_
        refine wp_seq' ?_
        refine wp_seq' ?_
        refine wp_sub' (L := rd pr p2 c2 (R.new z) ++ [rq b70 (.slice p60 z.length c60) (R.new z), row 5 1 (.slice (some ⟨b62, 0, none⟩) f.length f.length) f.length (cel f), row 5 1 (.slice p60 z.length c60) z.length (cel z), V]) (by show SubH _ _; rw [rq_no (show ((R.new z)).why = 0 from rfl)]; exact (by repeat (first | exact SubH.nil _ | refine SubH.cons 0 rfl ?_ | refine SubH.cons 1 rfl ?_ | refine SubH.cons 2 rfl ?_ | refine SubH.cons 3 rfl ?_ | refine SubH.cons 4 rfl ?_ | refine SubH.cons 5 rfl ?_ | refine SubH.cons 6 rfl ?_ | refine SubH.cons 7 rfl ?_ | refine SubH.cons 8 rfl ?_ | refine SubH.cons 9 rfl ?_ | refine SubH.cons 10 rfl ?_ | refine SubH.cons 11 rfl ?_ | refine SubH.cons 12 rfl ?_ | refine SubH.cons 13 rfl ?_ | refine SubH.rown ?_))) ?_
        refine wp_know (fun w F s => row_caps 4 rfl s) ?_
        intro hcz
        refine wp_heap (H' := rd pr p2 c2 (R.new z) ++ [rq b70 (.slice p60 z.length c60) (R.new z), St [row 5 1 (.slice (some ⟨b62, 0, none⟩) f.length f.length) f.length (cel f), row 5 1 (.slice p60 z.length c60) z.length (cel z), V]]) (fun w F s => packT (A := rd pr p2 c2 (R.new z) ++ [rq b70 (.slice p60 z.length c60) (R.new z)]) s) ?_
        have hMU : Ml (St [row 5 1 (.slice (some ⟨b62, 0, none⟩) f.length f.length) f.length (cel f), row 5 1 (.slice p60 z.length c60) z.length (cel z), V]) := Ml.pick 2 rfl hM
        have hRin : Rin (St [row 5 1 (.slice (some ⟨b62, 0, none⟩) f.length f.length) f.length (cel f), row 5 1 (.slice p60 z.length c60) z.length (cel z), V]) p60 c60 z := ⟨Vw.pick 1 rfl Vw.row, hcz, by omega⟩
        have hAU := Vw.pick (H := [row 5 1 (.slice (some ⟨b62, 0, none⟩) f.length f.length) f.length (cel f), row 5 1 (.slice p60 z.length c60) z.length (cel z), V]) 2 rfl hL2
        have hsub : SubH [St [row 5 1 (.slice (some ⟨b62, 0, none⟩) f.length f.length) f.length (cel f), row 5 1 (.slice p60 z.length c60) z.length (cel z), V]] [row 5 1 (.slice (some ⟨b62, 0, none⟩) f.length f.length) f.length (cel f), row 5 1 (.slice p60 z.length c60) z.length (cel z), V] := fun w F s => unpack s
        generalize St [row 5 1 (.slice (some ⟨b62, 0, none⟩) f.length f.length) f.length (cel f), row 5 1 (.slice p60 z.length c60) z.length (cel z), V] = U at *
        refine wp_region' ?_
        refine ops_ro' rfl (ro_assign rfl) rfl ?_
        refine ops_nil ?_
        refine Then_normal ?_
        refine wp_block' ?_
        refine wp_loopK 19 (fun m Δ LL => ∃ (i : Nat) (q : R), (i + m = l2.length ∧ i ≤ 30 ∧ q.Good ∧ q.On z) ∧ Δ = [(18, .int .i64 (i : Nat))] ∧ LL = rd pr p2 c2 q ++ [rq b70 (.slice p60 z.length c60) q, U]) (m := l2.length) (Has.cons (k := 2) rfl (Has.cons (k := 12) rfl (Has.cons (k := 15) rfl (Has.cons (k := 16) rfl (Has.cons (k := 17) rfl (Has.nil _)))))) (kept ⟨0, R.new z, ⟨by omega, by omega, hg0, ho0⟩, rfl, rfl⟩ (by repeat (first | exact Has.nil _ | refine Has.cons rfl ?_)) (by repeat (first | exact Has.nil _ | refine Has.cons rfl ?_)) (by repeat (first | exact SubH.nil _ | refine SubH.cons 0 rfl ?_ | refine SubH.cons 1 rfl ?_ | refine SubH.cons 2 rfl ?_ | refine SubH.cons 3 rfl ?_ | refine SubH.cons 4 rfl ?_ | refine SubH.cons 5 rfl ?_ | refine SubH.cons 6 rfl ?_ | refine SubH.cons 7 rfl ?_ | refine SubH.cons 8 rfl ?_ | refine SubH.cons 9 rfl ?_ | refine SubH.cons 10 rfl ?_ | refine SubH.cons 11 rfl ?_ | refine SubH.cons 12 rfl ?_ | refine SubH.cons 13 rfl ?_ | refine SubH.rown ?_))) ?_
        rintro m2 Δ LL ⟨i, q, ⟨hm2, hi30, hg, ho⟩, rfl, rfl⟩
        simp only [List.cons_append, List.nil_append]
        refine wp_seq' ?_
        refine wp_seq' ?_
        refine wp_region' ?_
        refine ops_ro' rfl (ro_move rfl) rfl ?_
        refine ops_ro' rfl (ro_move rfl) rfl ?_
        refine ops_ro' rfl (ro_sliceLen Tryd.underlying37 rfl) rfl ?_
        refine ops_ro' rfl (ro_lss rfl rfl rfl) rfl ?_
        refine ops_split rfl rfl rfl (fun hg77 => ?_) (fun hg77 => ?_)
        · replace hg77 := of_decide_eq_true hg77
          have hj : i < l2.length := by omega
          refine ops_know (fun w F s => vw_ptr (Vw.pick (H := [_, _, _, U]) 3 rfl hAU) s (by omega)) ?_
          rintro ⟨b2, o2, rfl⟩
          refine ops_ro' rfl (ro_move rfl) rfl ?_
          refine ops_ro' rfl (ro_lss rfl rfl rfl) rfl ?_
          refine ops_ro' rfl (ro_pick rfl rfl) rfl ?_
          refine ops_nil ?_
          refine Then_normal ?_
          refine wp_cond' rfl (fun hc80 => ?_) (fun hc80 => ?_)
          · replace hc80 := of_decide_eq_true hc80
            refine wp_skip' ?_
            refine Then_normal ?_
            refine wp_seq' ?_
            refine wp_block' ?_
            refine wp_seq' ?_
            refine wp_region' ?_
            refine ops_ro' rfl (ro_move rfl) rfl ?_
            refine ops_ro' rfl (ro_move rfl) rfl ?_
            refine ops_ro' rfl (ro_move rfl) rfl ?_
            refine ops_ro' rfl (ro_move rfl) rfl ?_
            refine ops_ro' rfl (ro_indexSlice sl37 rfl rfl rfl (by omega)) rfl ?_
            refine ops_ro' rfl (ro_loadA ag40 rfl (RdN.of_pick 3 rfl ((RdN.elem (vw_rdn hAU) Pt.len (List.getElem?_eq_getElem hj)))) rfl) rfl ?_
            refine ops_eff' rfl (eff_call Tryd.call33 rfl rfl (by repeat (first | exact Split.nil _ | apply Split.cons 0 rfl | apply Split.cons 1 rfl | apply Split.cons 2 rfl | apply Split.cons 3 rfl | apply Split.cons 4 rfl | apply Split.cons 5 rfl | apply Split.cons 6 rfl | apply Split.cons 7 rfl | apply Split.cons 8 rfl | apply Split.cons 9 rfl | apply Split.cons 10 rfl | apply Split.cons 11 rfl)) (get1_spec hMU pr b70 p2 p60 c2 c60 z q q hg hRin ho (.inl rfl) l2[i])) rfl ?_
            rintro _ H' ⟨_, ⟨rfl, r1', r2', hst, rfl⟩, hH⟩
            simp only [List.cons_append, List.nil_append, List.eraseIdx_cons_zero, List.eraseIdx_cons_succ, List.set_cons_zero, List.set_cons_succ] at hH
            subst hH
            obtain rfl := hst.same rfl
            refine ops_ro' rfl (ro_not rfl rfl) rfl ?_
            refine ops_ro' rfl (ro_move (v := .bool false) rfl) rfl ?_
            refine ops_ro' rfl (ro_move rfl) rfl ?_
            refine ops_ro' rfl (ro_move rfl) rfl ?_
            refine ops_eff' rfl (eff_call Tryd.call34 rfl rfl (by repeat (first | exact Split.nil _ | apply Split.cons 0 rfl | apply Split.cons 1 rfl | apply Split.cons 2 rfl | apply Split.cons 3 rfl | apply Split.cons 4 rfl | apply Split.cons 5 rfl | apply Split.cons 6 rfl | apply Split.cons 7 rfl | apply Split.cons 8 rfl | apply Split.cons 9 rfl | apply Split.cons 10 rfl | apply Split.cons 11 rfl)) (same1_spec pr b70 p2 p60 c2 c60 z r1' hst.good hRin hst.on)) rfl ?_
            rintro _ H' ⟨_, ⟨rfl, rfl⟩, hH⟩
            simp only [List.cons_append, List.nil_append, List.eraseIdx_cons_zero, List.eraseIdx_cons_succ, List.set_cons_zero, List.set_cons_succ] at hH
            subst hH
            refine ops_ro' rfl (ro_not rfl rfl) rfl ?_
            refine ops_ro' rfl (ro_pick rfl rfl) rfl ?_
            refine ops_nil ?_
            refine Then_normal ?_
            refine wp_condF rfl ?_
            refine wp_skip' ?_
            refine InBlock_normal ?_
            refine Then_normal ?_
            refine wp_region' ?_
            refine ops_ro' rfl (ro_move rfl) rfl ?_
            refine ops_ro' rfl (ro_add rfl rfl (wrap_inc (by omega))) rfl ?_
            refine ops_ro' rfl (ro_assign rfl) rfl ?_
            refine ops_nil ?_
            refine Then_normal ?_
            refine back (m2 - 1) (by omega) (kept ⟨i + 1, r1', ⟨by omega, by omega, hst.good, hst.on⟩, rfl, rfl⟩ ?_ ?_ ?_)
            · exact (by repeat (first | exact Has.nil _ | refine Has.cons rfl ?_))
            · exact (by repeat (first | exact Has.nil _ | refine Has.cons rfl ?_))
            · exact SubH.refl _
          · replace hc80 := of_decide_eq_false hc80
            refine wp_exit' ?_
            refine Then_exit ?_
            refine Then_exit ?_
            refine InBlock_here ?_
            refine Then_normal ?_
            refine wp_seq' ?_
            refine wp_heap (H' := rd pr p2 c2 q ++ [rq b70 (.slice p60 z.length c60) q, row 5 1 (.slice (some ⟨b62, 0, none⟩) f.length f.length) f.length (cel f), row 5 1 (.slice p60 z.length c60) z.length (cel z), V]) (fun w F s => SubH.append (H := rd pr p2 c2 q ++ [rq b70 (.slice p60 z.length c60) q]) (SubH.refl _) hsub w F s) ?_
            refine wp_region' ?_
            refine ops_ro' rfl (ro_move rfl) rfl ?_
            refine ops_ro' rfl (ro_move rfl) rfl ?_
            refine ops_eff' rfl (eff_callM (Pre := []) Tryd.call41 rfl rfl (Split.nil _) (intact_spec _ _ _ _ z 165 f hf (Vw.pick 3 rfl Vw.row) (Vw.pick 4 rfl Vw.row) (by omega) (Nat.le_refl _))) rfl ?_
            rintro _ H' ⟨_, ⟨rfl, rfl⟩, hH⟩
            simp only [List.cons_append, List.nil_append, List.eraseIdx_cons_zero, List.eraseIdx_cons_succ, List.set_cons_zero, List.set_cons_succ] at hH
            subst hH
            refine ops_ro' rfl (ro_move (v := .bool true) rfl) rfl ?_
            refine ops_eff' rfl (eff_call Tryd.call15 rfl rfl (by repeat (first | exact Split.nil _ | apply Split.cons 0 rfl | apply Split.cons 1 rfl | apply Split.cons 2 rfl | apply Split.cons 3 rfl | apply Split.cons 4 rfl | apply Split.cons 5 rfl | apply Split.cons 6 rfl | apply Split.cons 7 rfl | apply Split.cons 8 rfl | apply Split.cons 9 rfl | apply Split.cons 10 rfl | apply Split.cons 11 rfl)) (known1_spec)) rfl ?_
            rintro _ H' ⟨_, ⟨rfl, rfl⟩, hH⟩
            simp only [List.cons_append, List.nil_append, List.eraseIdx_cons_zero, List.eraseIdx_cons_succ, List.set_cons_zero, List.set_cons_succ] at hH
            subst hH
            refine ops_ro' rfl (ro_pick rfl rfl) rfl ?_
            refine ops_ro' rfl (ro_assign rfl) rfl ?_
            refine ops_nil ?_
            refine Then_normal ?_
            refine wp_ret' ?_
            refine' doneS_ret (res1 rfl rfl) ?_ ?_
            rotate_left 1
            exact ⟨rfl, rfl⟩
            exact (SubH.cons 5 rfl (SubH.nil _))
        · replace hg77 := of_decide_eq_false hg77
          refine ops_skip' rfl rfl ?_
          refine ops_skip' rfl rfl ?_
          refine ops_ro' rfl (ro_pick rfl rfl) rfl ?_
          refine ops_nil ?_
          refine Then_normal ?_
          refine wp_condF rfl ?_
          refine wp_exit' ?_
          refine Then_exit ?_
          refine Then_exit ?_
          refine InBlock_here ?_
          refine Then_normal ?_
          refine wp_seq' ?_
          refine wp_heap (H' := rd pr p2 c2 q ++ [rq b70 (.slice p60 z.length c60) q, row 5 1 (.slice (some ⟨b62, 0, none⟩) f.length f.length) f.length (cel f), row 5 1 (.slice p60 z.length c60) z.length (cel z), V]) (fun w F s => SubH.append (H := rd pr p2 c2 q ++ [rq b70 (.slice p60 z.length c60) q]) (SubH.refl _) hsub w F s) ?_
          refine wp_region' ?_
          refine ops_ro' rfl (ro_move rfl) rfl ?_
          refine ops_ro' rfl (ro_move rfl) rfl ?_
          refine ops_eff' rfl (eff_callM (Pre := []) Tryd.call41 rfl rfl (Split.nil _) (intact_spec _ _ _ _ z 165 f hf (Vw.pick 3 rfl Vw.row) (Vw.pick 4 rfl Vw.row) (by omega) (Nat.le_refl _))) rfl ?_
          rintro _ H' ⟨_, ⟨rfl, rfl⟩, hH⟩
          simp only [List.cons_append, List.nil_append, List.eraseIdx_cons_zero, List.eraseIdx_cons_succ, List.set_cons_zero, List.set_cons_succ] at hH
          subst hH
          refine ops_ro' rfl (ro_move (v := .bool true) rfl) rfl ?_
          refine ops_eff' rfl (eff_call Tryd.call15 rfl rfl (by repeat (first | exact Split.nil _ | apply Split.cons 0 rfl | apply Split.cons 1 rfl | apply Split.cons 2 rfl | apply Split.cons 3 rfl | apply Split.cons 4 rfl | apply Split.cons 5 rfl | apply Split.cons 6 rfl | apply Split.cons 7 rfl | apply Split.cons 8 rfl | apply Split.cons 9 rfl | apply Split.cons 10 rfl | apply Split.cons 11 rfl)) (known1_spec)) rfl ?_
          rintro _ H' ⟨_, ⟨rfl, rfl⟩, hH⟩
          simp only [List.cons_append, List.nil_append, List.eraseIdx_cons_zero, List.eraseIdx_cons_succ, List.set_cons_zero, List.set_cons_succ] at hH
          subst hH
          refine ops_ro' rfl (ro_pick rfl rfl) rfl ?_
          refine ops_ro' rfl (ro_assign rfl) rfl ?_
          refine ops_nil ?_
          refine Then_normal ?_
          refine wp_ret' ?_
          refine' doneS_ret (res1 rfl rfl) ?_ ?_
          rotate_left 1
          exact ⟨rfl, rfl⟩
          exact (SubH.cons 5 rfl (SubH.nil _))
  · replace hg26 := of_decide_eq_false hg26
    refine ops_skip' rfl rfl ?_
    refine ops_skip' rfl rfl ?_
    refine ops_ro' rfl (ro_pick rfl rfl) rfl ?_
    refine ops_nil ?_
    refine Then_normal ?_
    refine wp_condF rfl ?_
    refine wp_exit' ?_
    refine Then_exit ?_
    refine Then_exit ?_
    refine InBlock_here ?_
    refine Then_normal ?_
    refine wp_cutK 1012 (fun Δ LL => ∃ (x : List UInt8), (x.length = acc.length) ∧ Δ = [] ∧ LL = [row 5 1 (.slice p acc.length c) acc.length (cel x)] ++ wr pw pp cp a ++ [V]) (Has.cons (k := 0) rfl (Has.cons (k := 2) rfl (Has.cons (k := 12) rfl (Has.nil _)))) ?_ ?_
    · refine wp_seq' ?_
      refine wp_region' ?_
      refine ops_ro' rfl (ro_move rfl) rfl ?_
      refine ops_ro' rfl (ro_sliceLen Tryd.underlying28 rfl) rfl ?_
      refine ops_ro' rfl (ro_gtr rfl rfl rfl) rfl ?_
      refine ops_nil ?_
      refine Then_normal ?_
      refine wp_cond' rfl (fun hc42 => ?_) (fun hc42 => ?_)
      · replace hc42 := of_decide_eq_true hc42
        refine wp_seq' ?_
        refine wp_region' ?_
        refine ops_ro' rfl (ro_move rfl) rfl ?_
        refine ops_ro' rfl (ro_move rfl) rfl ?_
        refine ops_ro' rfl (ro_sliceLen Tryd.underlying28 rfl) rfl ?_
        refine ops_ro' rfl (ro_sub rfl rfl (show IntKind.i64.wrap ((acc.length : Int) - 1) = (acc.length : Int) - 1 by rw [wrap_i64_in (by omega) (by omega)])) rfl ?_
        refine ops_eff' rfl (eff_call Tryd.call39 rfl rfl (by repeat (first | exact Split.nil _ | apply Split.cons 0 rfl | apply Split.cons 1 rfl | apply Split.cons 2 rfl | apply Split.cons 3 rfl | apply Split.cons 4 rfl | apply Split.cons 5 rfl | apply Split.cons 6 rfl | apply Split.cons 7 rfl | apply Split.cons 8 rfl | apply Split.cons 9 rfl | apply Split.cons 10 rfl | apply Split.cons 11 rfl)) (within_spec at' 0 ((acc.length : Int) - 1) (by omega) (by omega) (by omega))) rfl ?_
        rintro _ H' ⟨_, ⟨rfl, rfl⟩, hH⟩
        simp only [List.cons_append, List.nil_append, List.eraseIdx_cons_zero, List.eraseIdx_cons_succ, List.set_cons_zero, List.set_cons_succ] at hH
        subst hH
        obtain ⟨k, hk, hkl⟩ : ∃ k : Nat, 0 + at' % ((acc.length : Int) - 1 - 0 + 1) = (k : Int) ∧ k < acc.length := ⟨(at' % ((acc.length : Int) - 1 - 0 + 1)).toNat, by have := Int.emod_nonneg at' (show (acc.length : Int) - 1 - 0 + 1 ≠ 0 by omega); omega, by have := Int.emod_nonneg at' (show (acc.length : Int) - 1 - 0 + 1 ≠ 0 by omega); have := Int.emod_lt_of_pos at' (show 0 < (acc.length : Int) - 1 - 0 + 1 by omega); omega⟩
        rw [hk]
        refine ops_ro' rfl (ro_assign rfl) rfl ?_
        refine ops_nil ?_
        refine Then_normal ?_
        refine wp_know (fun w F s => row_ptr' 0 rfl s (by omega)) ?_
        rintro ⟨bs, rfl⟩
        refine wp_region' ?_
        refine ops_ro' rfl (ro_move rfl) rfl ?_
        refine ops_ro' rfl (ro_move rfl) rfl ?_
        refine ops_ro' rfl (ro_move rfl) rfl ?_
        refine ops_ro' rfl (ro_move rfl) rfl ?_
        refine ops_ro' rfl (ro_indexSlice sl28 rfl rfl rfl (by omega)) rfl ?_
        refine ops_ro' rfl (ro_load sc5 rfl (Rd.pick 0 rfl (Rd.row (by rw [Nat.zero_add, Nat.mul_one]; exact cel_get hkl)))) rfl ?_
        refine ops_ro' rfl (ro_move rfl) rfl ?_
        refine ops_ro' rfl (ro_xor rfl rfl (xor8 _ _)) rfl ?_
        refine ops_ro' rfl (ro_indexSlice sl28 rfl rfl rfl (by omega)) rfl ?_
        refine ops_eff0 rfl (eff_storeB 0 sc5 rfl rfl (Int.natCast_nonneg _) (by have := UInt8.toNat_lt (acc[k] ^^^ turn); omega) rfl rfl hkl) rfl ?_
        rintro _ _ rfl
        simp only [List.set_cons_zero]
        refine ops_nil ?_
        refine Then_normal ?_
        refine over_cut (kept ⟨acc.set k (UInt8.ofNat (((acc[k] ^^^ turn).toNat : Nat) : Int).toNat), (by rw [List.length_set]), rfl, rfl⟩ ?_ ?_ ?_)
        · exact (by repeat (first | exact Has.nil _ | refine Has.cons rfl ?_))
        · exact (by repeat (first | exact Has.nil _ | refine Has.cons rfl ?_))
        · exact SubH.refl _
      · replace hc42 := of_decide_eq_false hc42
        refine wp_skip' ?_
        refine Then_normal ?_
        refine over_cut (kept ⟨acc, rfl, rfl, rfl⟩ ?_ ?_ ?_)
        · exact (by repeat (first | exact Has.nil _ | refine Has.cons rfl ?_))
        · exact (by repeat (first | exact Has.nil _ | refine Has.cons rfl ?_))
        · exact SubH.refl _
    · rintro Δ LL ⟨x, hx, rfl, rfl⟩
      simp only [List.cons_append, List.nil_append]
      refine wp_seq' ?_
      rw [← hx]
      refine wp_region' ?_
      refine ops_ro' rfl (ro_move rfl) rfl ?_
      refine ops_ro' rfl (ro_move rfl) rfl ?_
      refine ops_eff' rfl (eff_call Tryd.call37 rfl rfl (by repeat (first | exact Split.nil _ | apply Split.cons 0 rfl | apply Split.cons 1 rfl | apply Split.cons 2 rfl | apply Split.cons 3 rfl | apply Split.cons 4 rfl | apply Split.cons 5 rfl | apply Split.cons 6 rfl | apply Split.cons 7 rfl | apply Split.cons 8 rfl | apply Split.cons 9 rfl | apply Split.cons 10 rfl | apply Split.cons 11 rfl)) (kCut V p0 c0 b 300 hV hc)) rfl ?_
      rintro _ H' ⟨_, ⟨_, ⟨p1, c1, rfl, hv1, hc1, rfl⟩, rfl⟩, hH⟩
      simp only [List.cons_append, List.nil_append, List.eraseIdx_cons_zero, List.eraseIdx_cons_succ, List.set_cons_zero, List.set_cons_succ] at hH
      subst hH
      have hy : (b.take 300).length ≤ 300 := by simp; omega
      generalize ey : b.take 300 = y at *
      refine ops_eff' rfl (eff_appB (l2 := y) 1 sl28 (.inl ⟨5, Tryd.underlying28⟩) rfl rfl rfl (by first | exact Src.strl | exact Src.celv (Vw.pick 0 rfl hv1) | exact Src.celv (Vw.pick 1 rfl hv1) | exact Src.celv (Vw.pick 2 rfl hv1) | exact Src.celv (Vw.pick 3 rfl hv1) | exact Src.celv (Vw.pick 4 rfl hv1) | exact Src.celv (Vw.pick 5 rfl hv1) | exact Src.celv (Vw.pick 6 rfl hv1) | exact Src.celv (Vw.pick 7 rfl hv1) | exact Src.celv (Vw.pick 8 rfl hv1) | exact Src.celv (Vw.pick 9 rfl hv1) | exact Src.celv (Vw.pick 10 rfl hv1) | exact Src.celv (Vw.pick 11 rfl hv1) | exact Src.celv (Vw.pick 0 rfl Vw.row) | exact Src.celv (Vw.pick 1 rfl Vw.row) | exact Src.celv (Vw.pick 2 rfl Vw.row) | exact Src.celv (Vw.pick 3 rfl Vw.row) | exact Src.celv (Vw.pick 4 rfl Vw.row) | exact Src.celv (Vw.pick 5 rfl Vw.row) | exact Src.celv (Vw.pick 6 rfl Vw.row) | exact Src.celv (Vw.pick 7 rfl Vw.row) | exact Src.celv (Vw.pick 8 rfl Vw.row) | exact Src.celv (Vw.pick 9 rfl Vw.row) | exact Src.celv (Vw.pick 10 rfl Vw.row) | exact Src.celv (Vw.pick 11 rfl Vw.row)) (by first | omega | (simp only [List.length_append, List.length_cons, List.length_nil, List.length_take, List.length_drop] at *; omega))) rfl ?_
      rintro _ _ ⟨p60, c60, rfl, hn60, rfl⟩
      simp only [List.set_cons_zero, List.set_cons_succ]
      have hz : (x ++ y).length ≤ 20300 := by rw [List.length_append]; omega
      generalize ez : x ++ y = z at *
      refine ops_ro' rfl (ro_assign rfl) rfl ?_
      refine ops_nil ?_
      refine Then_normal ?_
      refine wp_seq' ?_
      refine wp_region' ?_
      refine ops_ro' rfl (ro_move rfl) rfl ?_
      refine ops_eff' rfl (eff_callM (Pre := []) Tryd.call40 rfl rfl (Split.nil _) (roomy_spec _ _ z (by first | exact (Vw.pick 0 rfl hv1) | exact (Vw.pick 1 rfl hv1) | exact (Vw.pick 2 rfl hv1) | exact (Vw.pick 3 rfl hv1) | exact (Vw.pick 4 rfl hv1) | exact (Vw.pick 5 rfl hv1) | exact (Vw.pick 6 rfl hv1) | exact (Vw.pick 7 rfl hv1) | exact (Vw.pick 8 rfl hv1) | exact (Vw.pick 9 rfl hv1) | exact (Vw.pick 10 rfl hv1) | exact (Vw.pick 11 rfl hv1) | exact Vw.pick 0 rfl Vw.row | exact Vw.pick 1 rfl Vw.row | exact Vw.pick 2 rfl Vw.row | exact Vw.pick 3 rfl Vw.row | exact Vw.pick 4 rfl Vw.row | exact Vw.pick 5 rfl Vw.row | exact Vw.pick 6 rfl Vw.row | exact Vw.pick 7 rfl Vw.row | exact Vw.pick 8 rfl Vw.row | exact Vw.pick 9 rfl Vw.row | exact Vw.pick 10 rfl Vw.row | exact Vw.pick 11 rfl Vw.row | exact Vw.nil _ | exact Vw.empty _ _) (by omega) 165)) rfl ?_
      rintro _ H' ⟨_, ⟨b62, rfl, rfl⟩, hH⟩
      simp only [List.cons_append, List.nil_append, List.eraseIdx_cons_zero, List.eraseIdx_cons_succ, List.set_cons_zero, List.set_cons_succ] at hH
      subst hH
      obtain ⟨f, hf⟩ : ∃ f, f = z ++ List.replicate 80 (165 : UInt8) := ⟨_, rfl⟩
      have hfl : z.length + 80 = f.length := by rw [hf]; simp
      rw [← hf, hfl]
      refine ops_ro' rfl (ro_assign rfl) rfl ?_
      refine ops_nil ?_
      refine Then_normal ?_
      refine wp_seq' ?_
      refine wp_region' ?_
      refine ops_ro' rfl (ro_move rfl) rfl ?_
      refine ops_ro' rfl (ro_move rfl) rfl ?_
      refine ops_ro' rfl (ro_sliceLen Tryd.underlying28 rfl) rfl ?_
      refine ops_eff' rfl (eff_sliceB 0 rfl sl28 rfl Vw.row rfl (bnd_of rfl rfl) (by omega) (by omega) (Nat.le_refl _)) rfl ?_
      rintro _ _ ⟨p66, rfl, hv66, hn66, rfl⟩
      have hz0 : List.take (z.length - 0) (List.drop 0 f) = z := by rw [hf]; simp
      rw [hz0] at hv66 ⊢
      refine ops_eff' rfl (eff_call Tryd.call11 rfl rfl (by repeat (first | exact Split.nil _ | apply Split.cons 0 rfl | apply Split.cons 1 rfl | apply Split.cons 2 rfl | apply Split.cons 3 rfl | apply Split.cons 4 rfl | apply Split.cons 5 rfl | apply Split.cons 6 rfl | apply Split.cons 7 rfl | apply Split.cons 8 rfl | apply Split.cons 9 rfl | apply Split.cons 10 rfl | apply Split.cons 11 rfl)) (newReader_spec _ p66 _ z hv66 (by omega))) rfl ?_
      rintro _ H' ⟨_, ⟨pr, p2, c2, rfl, rfl⟩, hH⟩
      simp only [List.cons_append, List.nil_append, List.eraseIdx_cons_zero, List.eraseIdx_cons_succ, List.set_cons_zero, List.set_cons_succ] at hH
      subst hH
      have hg0 := R.good_new z (by omega)
      have ho0 : R.On (R.new z) z := ⟨rfl, Nat.zero_le _⟩
      refine ops_ro' rfl (ro_assign rfl) rfl ?_
      refine ops_nil ?_
      refine Then_normal ?_
      refine wp_seq' ?_
      refine wp_region' ?_
      refine ops_ro' rfl (ro_move rfl) rfl ?_
      refine ops_ro' rfl (ro_build rfl (bld_struct (cs := [(.slice p60 z.length c60), .int .i64 0, .bool false, .int .i64 0, .int .i64 0]) st60 rfl)) rfl ?_
      refine ops_eff' rfl (eff_box rfl) rfl ?_
      rintro _ _ ⟨b70, rfl, rfl⟩
      refine ops_ro' rfl (ro_assign rfl) rfl ?_
      refine ops_nil ?_
      refine Then_normal ?_
      refine wp_seq' ?_
      refine wp_seq' ?_
      refine wp_region' ?_
      refine ops_ro' rfl (ro_move rfl) rfl ?_
      refine ops_ro' rfl (ro_ptrEqlNil Tryd.underlying26 rfl rfl rfl) rfl ?_
      refine ops_nil ?_
      refine Then_normal ?_
      refine wp_condF rfl ?_
      refine wp_skip' ?_
      refine Then_normal ?_
      refine wp_seq' ?_
      refine wp_seq' ?_
      refine wp_sub' (L := rd pr p2 c2 (R.new z) ++ [rq b70 (.slice p60 z.length c60) (R.new z), row 5 1 (.slice (some ⟨b62, 0, none⟩) f.length f.length) f.length (cel f), row 5 1 (.slice p60 z.length c60) z.length (cel z), V]) (by show SubH _ _; rw [rq_no (show ((R.new z)).why = 0 from rfl)]; exact (by repeat (first | exact SubH.nil _ | refine SubH.cons 0 rfl ?_ | refine SubH.cons 1 rfl ?_ | refine SubH.cons 2 rfl ?_ | refine SubH.cons 3 rfl ?_ | refine SubH.cons 4 rfl ?_ | refine SubH.cons 5 rfl ?_ | refine SubH.cons 6 rfl ?_ | refine SubH.cons 7 rfl ?_ | refine SubH.cons 8 rfl ?_ | refine SubH.cons 9 rfl ?_ | refine SubH.cons 10 rfl ?_ | refine SubH.cons 11 rfl ?_ | refine SubH.cons 12 rfl ?_ | refine SubH.cons 13 rfl ?_ | refine SubH.rown ?_))) ?_
      refine wp_know (fun w F s => row_caps 4 rfl s) ?_
      intro hcz
      refine wp_heap (H' := rd pr p2 c2 (R.new z) ++ [rq b70 (.slice p60 z.length c60) (R.new z), St [row 5 1 (.slice (some ⟨b62, 0, none⟩) f.length f.length) f.length (cel f), row 5 1 (.slice p60 z.length c60) z.length (cel z), V]]) (fun w F s => packT (A := rd pr p2 c2 (R.new z) ++ [rq b70 (.slice p60 z.length c60) (R.new z)]) s) ?_
      have hMU : Ml (St [row 5 1 (.slice (some ⟨b62, 0, none⟩) f.length f.length) f.length (cel f), row 5 1 (.slice p60 z.length c60) z.length (cel z), V]) := Ml.pick 2 rfl hM
      have hRin : Rin (St [row 5 1 (.slice (some ⟨b62, 0, none⟩) f.length f.length) f.length (cel f), row 5 1 (.slice p60 z.length c60) z.length (cel z), V]) p60 c60 z := ⟨Vw.pick 1 rfl Vw.row, hcz, by omega⟩
      have hAU := Vw.pick (H := [row 5 1 (.slice (some ⟨b62, 0, none⟩) f.length f.length) f.length (cel f), row 5 1 (.slice p60 z.length c60) z.length (cel z), V]) 2 rfl hL2
      have hsub : SubH [St [row 5 1 (.slice (some ⟨b62, 0, none⟩) f.length f.length) f.length (cel f), row 5 1 (.slice p60 z.length c60) z.length (cel z), V]] [row 5 1 (.slice (some ⟨b62, 0, none⟩) f.length f.length) f.length (cel f), row 5 1 (.slice p60 z.length c60) z.length (cel z), V] := fun w F s => unpack s
      generalize St [row 5 1 (.slice (some ⟨b62, 0, none⟩) f.length f.length) f.length (cel f), row 5 1 (.slice p60 z.length c60) z.length (cel z), V] = U at *
      refine wp_region' ?_
      refine ops_ro' rfl (ro_assign rfl) rfl ?_
      refine ops_nil ?_
      refine Then_normal ?_
      refine wp_block' ?_
      refine wp_loopK 19 (fun m Δ LL => ∃ (i : Nat) (q : R), (i + m = l2.length ∧ i ≤ 30 ∧ q.Good ∧ q.On z) ∧ Δ = [(18, .int .i64 (i : Nat))] ∧ LL = rd pr p2 c2 q ++ [rq b70 (.slice p60 z.length c60) q, U]) (m := l2.length) (Has.cons (k := 2) rfl (Has.cons (k := 12) rfl (Has.cons (k := 15) rfl (Has.cons (k := 16) rfl (Has.cons (k := 17) rfl (Has.nil _)))))) (kept ⟨0, R.new z, ⟨by omega, by omega, hg0, ho0⟩, rfl, rfl⟩ (by repeat (first | exact Has.nil _ | refine Has.cons rfl ?_)) (by repeat (first | exact Has.nil _ | refine Has.cons rfl ?_)) (by repeat (first | exact SubH.nil _ | refine SubH.cons 0 rfl ?_ | refine SubH.cons 1 rfl ?_ | refine SubH.cons 2 rfl ?_ | refine SubH.cons 3 rfl ?_ | refine SubH.cons 4 rfl ?_ | refine SubH.cons 5 rfl ?_ | refine SubH.cons 6 rfl ?_ | refine SubH.cons 7 rfl ?_ | refine SubH.cons 8 rfl ?_ | refine SubH.cons 9 rfl ?_ | refine SubH.cons 10 rfl ?_ | refine SubH.cons 11 rfl ?_ | refine SubH.cons 12 rfl ?_ | refine SubH.cons 13 rfl ?_ | refine SubH.rown ?_))) ?_
      rintro m2 Δ LL ⟨i, q, ⟨hm2, hi30, hg, ho⟩, rfl, rfl⟩
      simp only [List.cons_append, List.nil_append]
      refine wp_seq' ?_
      refine wp_seq' ?_
      refine wp_region' ?_
      refine ops_ro' rfl (ro_move rfl) rfl ?_
      refine ops_ro' rfl (ro_move rfl) rfl ?_
      refine ops_ro' rfl (ro_sliceLen Tryd.underlying37 rfl) rfl ?_
      refine ops_ro' rfl (ro_lss rfl rfl rfl) rfl ?_
      refine ops_split rfl rfl rfl (fun hg77 => ?_) (fun hg77 => ?_)
      · replace hg77 := of_decide_eq_true hg77
        have hj : i < l2.length := by omega
        refine ops_know (fun w F s => vw_ptr (Vw.pick (H := [_, _, _, U]) 3 rfl hAU) s (by omega)) ?_
        rintro ⟨b2, o2, rfl⟩
        refine ops_ro' rfl (ro_move rfl) rfl ?_
        refine ops_ro' rfl (ro_lss rfl rfl rfl) rfl ?_
        refine ops_ro' rfl (ro_pick rfl rfl) rfl ?_
        refine ops_nil ?_
        refine Then_normal ?_
        refine wp_cond' rfl (fun hc80 => ?_) (fun hc80 => ?_)
        · replace hc80 := of_decide_eq_true hc80
          refine wp_skip' ?_
          refine Then_normal ?_
          refine wp_seq' ?_
          refine wp_block' ?_
          refine wp_seq' ?_
          refine wp_region' ?_
          refine ops_ro' rfl (ro_move rfl) rfl ?_
          refine ops_ro' rfl (ro_move rfl) rfl ?_
          refine ops_ro' rfl (ro_move rfl) rfl ?_
          refine ops_ro' rfl (ro_move rfl) rfl ?_
          refine ops_ro' rfl (ro_indexSlice sl37 rfl rfl rfl (by omega)) rfl ?_
          refine ops_ro' rfl (ro_loadA ag40 rfl (RdN.of_pick 3 rfl ((RdN.elem (vw_rdn hAU) Pt.len (List.getElem?_eq_getElem hj)))) rfl) rfl ?_
          refine ops_eff' rfl (eff_call Tryd.call33 rfl rfl (by repeat (first | exact Split.nil _ | apply Split.cons 0 rfl | apply Split.cons 1 rfl | apply Split.cons 2 rfl | apply Split.cons 3 rfl | apply Split.cons 4 rfl | apply Split.cons 5 rfl | apply Split.cons 6 rfl | apply Split.cons 7 rfl | apply Split.cons 8 rfl | apply Split.cons 9 rfl | apply Split.cons 10 rfl | apply Split.cons 11 rfl)) (get1_spec hMU pr b70 p2 p60 c2 c60 z q q hg hRin ho (.inl rfl) l2[i])) rfl ?_
          rintro _ H' ⟨_, ⟨rfl, r1', r2', hst, rfl⟩, hH⟩
          simp only [List.cons_append, List.nil_append, List.eraseIdx_cons_zero, List.eraseIdx_cons_succ, List.set_cons_zero, List.set_cons_succ] at hH
          subst hH
          obtain rfl := hst.same rfl
          refine ops_ro' rfl (ro_not rfl rfl) rfl ?_
          refine ops_ro' rfl (ro_move (v := .bool false) rfl) rfl ?_
          refine ops_ro' rfl (ro_move rfl) rfl ?_
          refine ops_ro' rfl (ro_move rfl) rfl ?_
          refine ops_eff' rfl (eff_call Tryd.call34 rfl rfl (by repeat (first | exact Split.nil _ | apply Split.cons 0 rfl | apply Split.cons 1 rfl | apply Split.cons 2 rfl | apply Split.cons 3 rfl | apply Split.cons 4 rfl | apply Split.cons 5 rfl | apply Split.cons 6 rfl | apply Split.cons 7 rfl | apply Split.cons 8 rfl | apply Split.cons 9 rfl | apply Split.cons 10 rfl | apply Split.cons 11 rfl)) (same1_spec pr b70 p2 p60 c2 c60 z r1' hst.good hRin hst.on)) rfl ?_
          rintro _ H' ⟨_, ⟨rfl, rfl⟩, hH⟩
          simp only [List.cons_append, List.nil_append, List.eraseIdx_cons_zero, List.eraseIdx_cons_succ, List.set_cons_zero, List.set_cons_succ] at hH
          subst hH
          refine ops_ro' rfl (ro_not rfl rfl) rfl ?_
          refine ops_ro' rfl (ro_pick rfl rfl) rfl ?_
          refine ops_nil ?_
          refine Then_normal ?_
          refine wp_condF rfl ?_
          refine wp_skip' ?_
          refine InBlock_normal ?_
          refine Then_normal ?_
          refine wp_region' ?_
          refine ops_ro' rfl (ro_move rfl) rfl ?_
          refine ops_ro' rfl (ro_add rfl rfl (wrap_inc (by omega))) rfl ?_
          refine ops_ro' rfl (ro_assign rfl) rfl ?_
          refine ops_nil ?_
          refine Then_normal ?_
          refine back (m2 - 1) (by omega) (kept ⟨i + 1, r1', ⟨by omega, by omega, hst.good, hst.on⟩, rfl, rfl⟩ ?_ ?_ ?_)
          · exact (by repeat (first | exact Has.nil _ | refine Has.cons rfl ?_))
          · exact (by repeat (first | exact Has.nil _ | refine Has.cons rfl ?_))
          · exact SubH.refl _
        · replace hc80 := of_decide_eq_false hc80
          refine wp_exit' ?_
          refine Then_exit ?_
          refine Then_exit ?_
          refine InBlock_here ?_
          refine Then_normal ?_
          refine wp_seq' ?_
          refine wp_heap (H' := rd pr p2 c2 q ++ [rq b70 (.slice p60 z.length c60) q, row 5 1 (.slice (some ⟨b62, 0, none⟩) f.length f.length) f.length (cel f), row 5 1 (.slice p60 z.length c60) z.length (cel z), V]) (fun w F s => SubH.append (H := rd pr p2 c2 q ++ [rq b70 (.slice p60 z.length c60) q]) (SubH.refl _) hsub w F s) ?_
          refine wp_region' ?_
          refine ops_ro' rfl (ro_move rfl) rfl ?_
          refine ops_ro' rfl (ro_move rfl) rfl ?_
          refine ops_eff' rfl (eff_callM (Pre := []) Tryd.call41 rfl rfl (Split.nil _) (intact_spec _ _ _ _ z 165 f hf (Vw.pick 3 rfl Vw.row) (Vw.pick 4 rfl Vw.row) (by omega) (Nat.le_refl _))) rfl ?_
          rintro _ H' ⟨_, ⟨rfl, rfl⟩, hH⟩
          simp only [List.cons_append, List.nil_append, List.eraseIdx_cons_zero, List.eraseIdx_cons_succ, List.set_cons_zero, List.set_cons_succ] at hH
          subst hH
          refine ops_ro' rfl (ro_move (v := .bool true) rfl) rfl ?_
          refine ops_eff' rfl (eff_call Tryd.call15 rfl rfl (by repeat (first | exact Split.nil _ | apply Split.cons 0 rfl | apply Split.cons 1 rfl | apply Split.cons 2 rfl | apply Split.cons 3 rfl | apply Split.cons 4 rfl | apply Split.cons 5 rfl | apply Split.cons 6 rfl | apply Split.cons 7 rfl | apply Split.cons 8 rfl | apply Split.cons 9 rfl | apply Split.cons 10 rfl | apply Split.cons 11 rfl)) (known1_spec)) rfl ?_
          rintro _ H' ⟨_, ⟨rfl, rfl⟩, hH⟩
          simp only [List.cons_append, List.nil_append, List.eraseIdx_cons_zero, List.eraseIdx_cons_succ, List.set_cons_zero, List.set_cons_succ] at hH
          subst hH
          refine ops_ro' rfl (ro_pick rfl rfl) rfl ?_
          refine ops_ro' rfl (ro_assign rfl) rfl ?_
          refine ops_nil ?_
          refine Then_normal ?_
          refine wp_ret' ?_
          refine' doneS_ret (res1 rfl rfl) ?_ ?_
          rotate_left 1
          exact ⟨rfl, rfl⟩
          exact (SubH.cons 5 rfl (SubH.nil _))
      · replace hg77 := of_decide_eq_false hg77
        refine ops_skip' rfl rfl ?_
        refine ops_skip' rfl rfl ?_
        refine ops_ro' rfl (ro_pick rfl rfl) rfl ?_
        refine ops_nil ?_
        refine Then_normal ?_
        refine wp_condF rfl ?_
        refine wp_exit' ?_
        refine Then_exit ?_
        refine Then_exit ?_
        refine InBlock_here ?_
        refine Then_normal ?_
        refine wp_seq' ?_
        refine wp_heap (H' := rd pr p2 c2 q ++ [rq b70 (.slice p60 z.length c60) q, row 5 1 (.slice (some ⟨b62, 0, none⟩) f.length f.length) f.length (cel f), row 5 1 (.slice p60 z.length c60) z.length (cel z), V]) (fun w F s => SubH.append (H := rd pr p2 c2 q ++ [rq b70 (.slice p60 z.length c60) q]) (SubH.refl _) hsub w F s) ?_
        refine wp_region' ?_
        refine ops_ro' rfl (ro_move rfl) rfl ?_
        refine ops_ro' rfl (ro_move rfl) rfl ?_
        refine ops_eff' rfl (eff_callM (Pre := []) Tryd.call41 rfl rfl (Split.nil _) (intact_spec _ _ _ _ z 165 f hf (Vw.pick 3 rfl Vw.row) (Vw.pick 4 rfl Vw.row) (by omega) (Nat.le_refl _))) rfl ?_
        rintro _ H' ⟨_, ⟨rfl, rfl⟩, hH⟩
        simp only [List.cons_append, List.nil_append, List.eraseIdx_cons_zero, List.eraseIdx_cons_succ, List.set_cons_zero, List.set_cons_succ] at hH
        subst hH
        refine ops_ro' rfl (ro_move (v := .bool true) rfl) rfl ?_
        refine ops_eff' rfl (eff_call Tryd.call15 rfl rfl (by repeat (first | exact Split.nil _ | apply Split.cons 0 rfl | apply Split.cons 1 rfl | apply Split.cons 2 rfl | apply Split.cons 3 rfl | apply Split.cons 4 rfl | apply Split.cons 5 rfl | apply Split.cons 6 rfl | apply Split.cons 7 rfl | apply Split.cons 8 rfl | apply Split.cons 9 rfl | apply Split.cons 10 rfl | apply Split.cons 11 rfl)) (known1_spec)) rfl ?_
        rintro _ H' ⟨_, ⟨rfl, rfl⟩, hH⟩
        simp only [List.cons_append, List.nil_append, List.eraseIdx_cons_zero, List.eraseIdx_cons_succ, List.set_cons_zero, List.set_cons_succ] at hH
        subst hH
        refine ops_ro' rfl (ro_pick rfl rfl) rfl ?_
        refine ops_ro' rfl (ro_assign rfl) rfl ?_
        refine ops_nil ?_
        refine Then_normal ?_
        refine wp_ret' ?_
        refine' doneS_ret (res1 rfl rfl) ?_ ?_
        rotate_left 1
        exact ⟨rfl, rfl⟩
        exact (SubH.cons 5 rfl (SubH.nil _))

end Go.Proofs.YtbiohhfibkolgaaDoor
