/-
  Package strongroomref17: replies written.
-/
import Derived.Test.YtigaolglnnjnmaaSfN
import Derived.Test.YtigaolglnnjnmaaSfF
namespace Go.Proofs.Ytigaolglnnjnmaa
open Go.Sx
set_option linter.unusedVariables false
set_option linter.unusedSimpArgs false
set_option maxRecDepth 100000
set_option maxHeartbeats 4000000

def Lb (l : List Nm) (w : Bool) : Prop := w = true ↔ ∃ x ∈ l, 256 < x.n.length
theorem Lb.nil : Lb [] false := ⟨fun h => (by cases h), fun ⟨x, hx, _⟩ => (by cases hx)⟩
theorem Lb.t {l : List Nm} {w : Bool} {i : Nat} (hi : i < l.length) (h : Lb (l.take i) w) (hw : w = true) : Lb (l.take (i + 1)) true := by
  rw [List.take_succ_eq_append_getElem hi]
  obtain ⟨x, hx, h2⟩ := h.1 hw
  exact ⟨fun _ => ⟨x, List.mem_append_left _ hx, h2⟩, fun _ => rfl⟩
theorem Lb.f {l : List Nm} {w : Bool} {i : Nat} (hi : i < l.length) (h : Lb (l.take i) w) (hw : ¬ w = true) : Lb (l.take (i + 1)) (decide ((256 : Int) < (l[i].n.length : Int))) := by
  rw [List.take_succ_eq_append_getElem hi]
  unfold Lb
  rw [decide_eq_true_eq]
  refine ⟨fun h2 => ⟨l[i], List.mem_append_right _ (List.mem_singleton.2 rfl), by omega⟩, fun ⟨x, hx, h2⟩ => ?_⟩
  rcases List.mem_append.1 hx with hx | hx
  · exact absurd (h.2 ⟨x, hx, h2⟩) hw
  · rw [List.mem_singleton.1 hx] at h2; omega
theorem RdN.drp {V : HProp} {b o : Nat} {xs : List Value} (h : RdN V b o xs) (k : Nat) : RdN V b (o + k) (xs.drop k) := fun j u hj w R s => by
  have h1 := h (k + j) u (by rw [List.getElem?_drop] at hj; exact hj) w R s
  rwa [← Nat.add_assoc] at h1
theorem rt_no {l : List Nm} (h : Rt l) : ¬ ∃ x ∈ l, x.at'.right = false := by
  rintro ⟨x, hx, h2⟩; rw [h x hx] at h2; cases h2


def namB (l : List UInt8) (ns : List Nm) : List UInt8 := if namesE ns = 0 then l ++ be ns.length 4 ++ ns.flatMap nmE else []
theorem r17names_spec {V : HProp} (p : Option Addr) (c : Nat) (l : List UInt8) (hL : Vw V (.slice p l.length c) l.length (cel l)) (hl : l.length ≤ 1000) (q : Option Addr) (cq : Nat) (ns : List Nm) (hN : Vw V (.slice q ns.length cq) ns.length (flat Nm.cs ns)) (hn : ns.length ≤ 1000) (hO : ∀ x ∈ ns, x.at'.Ok) (hS : ∀ x ∈ ns, x.n.length ≤ 300) : Tri Try.prog 72 [.slice p l.length c, .slice q ns.length cq] [V]
    (fun v H' => ∃ K, (∃ p' c', v = .tuple #[.slice p' (namB l ns).length c', .int .i64 (namesE ns)] ∧ K = [row 5 1 (.slice p' (namB l ns).length c') (namB l ns).length (cel (namB l ns))]) ∧ H' = K ++ [V]) := by
  refine tri_of_wpS Try.func72 rfl Try.ntmps72 (by simp) ?_
  refine wp_seq' ?_
  refine wp_region' ?_
  refine ops_ro' rfl (ro_assign rfl) rfl ?_
  refine ops_ro' rfl (ro_assign rfl) rfl ?_
  refine ops_nil ?_
  refine Then_normal ?_
  refine wp_seq' ?_
  refine wp_region' ?_
  refine ops_ro' rfl (ro_assign rfl) rfl ?_
  refine ops_nil ?_
  refine Then_normal ?_
  refine wp_seq' ?_
  refine wp_seq' ?_
  refine wp_region' ?_
  refine ops_ro' rfl (ro_assign rfl) rfl ?_
  refine ops_nil ?_
  refine Then_normal ?_
  refine wp_block' ?_
  refine wp_loopK 3 (fun m Δ LL => ∃ (i : Nat) (w : Bool), (i + m = ns.length ∧ Rt (ns.take i) ∧ Lb (ns.take i) w) ∧ Δ = [(6, .bool w), (7, .int .i64 (i : Nat))] ∧ LL = [V]) (m := ns.length) (Has.cons (k := 0) rfl (Has.cons (k := 1) rfl (Has.nil _))) (kept ⟨0, false, ⟨by omega, fun x hx => (by simp at hx), Lb.nil⟩, rfl, rfl⟩ (by repeat (first | exact Has.nil _ | refine Has.cons rfl ?_)) (by repeat (first | exact Has.nil _ | refine Has.cons rfl ?_)) (by repeat (first | exact SubH.nil _ | refine SubH.cons 0 rfl ?_ | refine SubH.cons 1 rfl ?_ | refine SubH.cons 2 rfl ?_ | refine SubH.cons 3 rfl ?_ | refine SubH.cons 4 rfl ?_ | refine SubH.cons 5 rfl ?_ | refine SubH.cons 6 rfl ?_ | refine SubH.cons 7 rfl ?_ | refine SubH.cons 8 rfl ?_ | refine SubH.cons 9 rfl ?_ | refine SubH.cons 10 rfl ?_ | refine SubH.cons 11 rfl ?_ | refine SubH.cons 12 rfl ?_ | refine SubH.cons 13 rfl ?_ | refine SubH.rown ?_))) ?_
  rintro m Δ LL ⟨i, w, ⟨hm, hrt, hlg⟩, rfl, rfl⟩
  simp only [List.cons_append, List.nil_append]
  refine wp_seq' ?_
  refine wp_seq' ?_
  refine wp_region' ?_
  refine ops_ro' rfl (ro_move rfl) rfl ?_
  refine ops_ro' rfl (ro_move rfl) rfl ?_
  refine ops_ro' rfl (ro_sliceLen Try.underlying64 rfl) rfl ?_
  refine ops_ro' rfl (ro_lss rfl rfl rfl) rfl ?_
  refine ops_nil ?_
  refine Then_normal ?_
  refine wp_cond' rfl (fun hc12 => ?_) (fun hc12 => ?_)
  · replace hc12 := of_decide_eq_true hc12
    refine wp_skip' ?_
    refine Then_normal ?_
    refine wp_seq' ?_
    refine wp_block' ?_
    refine wp_seq' ?_
    refine wp_seq' ?_
    have hi : i < ns.length := by omega
    refine wp_know (fun w F s => vw_ptr (Vw.pick (H := [V]) 0 rfl hN) s (by omega)) ?_
    rintro ⟨b0, o0, rfl⟩
    refine wp_region' ?_
    refine ops_ro' rfl (ro_move rfl) rfl ?_
    refine ops_ro' rfl (ro_move rfl) rfl ?_
    refine ops_ro' rfl (ro_indexSlice sl64 rfl rfl rfl (by omega)) rfl ?_
    refine ops_ro' rfl (ro_fieldAddr fa120_1 rfl) rfl ?_
    refine ops_ro' rfl (ro_loadA ag54 rfl (RdN.of_pick 0 rfl ((RdN.drp (RdN.elem (vw_rdn hN) Nm.len (List.getElem?_eq_getElem hi)) 1))) rfl) rfl ?_
    refine ops_eff' rfl (eff_call Try.call70 rfl rfl (by repeat (first | exact Split.nil _ | apply Split.cons 0 rfl | apply Split.cons 1 rfl | apply Split.cons 2 rfl | apply Split.cons 3 rfl | apply Split.cons 4 rfl | apply Split.cons 5 rfl | apply Split.cons 6 rfl | apply Split.cons 7 rfl | apply Split.cons 8 rfl | apply Split.cons 9 rfl | apply Split.cons 10 rfl | apply Split.cons 11 rfl)) (q14right ns[i].at' (hO _ (List.getElem_mem hi)))) rfl ?_
    rintro _ H' ⟨_, ⟨rfl, rfl⟩, hH⟩
    simp only [List.cons_append, List.nil_append, List.eraseIdx_cons_zero, List.eraseIdx_cons_succ, List.set_cons_zero, List.set_cons_succ] at hH
    subst hH
    refine ops_ro' rfl (ro_not rfl rfl) rfl ?_
    refine ops_nil ?_
    refine Then_normal ?_
    refine wp_cond' rfl (fun hc21 => ?_) (fun hc21 => ?_)
    · simp only [Bool.and_eq_true, decide_eq_true_eq, Bool.not_eq_true', decide_eq_false_iff_not, bne_iff_ne, ne_eq] at hc21
      refine wp_seq' ?_
      refine wp_region' ?_
      refine ops_ro' rfl (ro_assign rfl) rfl ?_
      refine ops_ro' rfl (ro_assign rfl) rfl ?_
      refine ops_nil ?_
      refine Then_normal ?_
      refine wp_ret' ?_
      refine Then_ret ?_
      refine InBlock_ret ?_
      refine Then_ret ?_
      refine Then_ret ?_
      refine InBlock_ret ?_
      refine Then_ret ?_
      refine' doneS_ret (res2 rfl rfl rfl) ?_ ?_
      rotate_left 1
      have HE : namesE ns = 12 := by exact namesE_bad hi (by simp_all)
      have HB : namB l ns = [] := by unfold namB; rw [if_neg (by rw [HE]; decide)]
      rw [HE, HB]
      exact ⟨_, ⟨none, 0, rfl, rfl⟩, rfl⟩
      exact (SubH.rown (SubH.cons 0 rfl (SubH.nil _)))
    · simp only [Bool.and_eq_false_iff, decide_eq_false_iff_not, Bool.not_eq_false', decide_eq_true_eq] at hc21
      refine wp_skip' ?_
      refine Then_normal ?_
      refine wp_region' ?_
      refine ops_ro' rfl (ro_move rfl) rfl ?_
      refine ops_split rfl rfl rfl (fun hg23 => ?_) (fun hg23 => ?_)
      · skip
        refine ops_skip' rfl rfl ?_
        refine ops_skip' rfl rfl ?_
        refine ops_skip' rfl rfl ?_
        refine ops_skip' rfl rfl ?_
        refine ops_skip' rfl rfl ?_
        refine ops_skip' rfl rfl ?_
        refine ops_skip' rfl rfl ?_
        refine ops_ro' rfl (ro_pick rfl rfl) rfl ?_
        refine ops_ro' rfl (ro_assign rfl) rfl ?_
        refine ops_nil ?_
        refine InBlock_normal ?_
        refine Then_normal ?_
        refine wp_region' ?_
        refine ops_ro' rfl (ro_move rfl) rfl ?_
        refine ops_ro' rfl (ro_add rfl rfl (wrap_inc (by omega))) rfl ?_
        refine ops_ro' rfl (ro_assign rfl) rfl ?_
        refine ops_nil ?_
        refine Then_normal ?_
        refine back (m - 1) (by omega) (kept ⟨i + 1, true, ⟨by omega, Rt.snoc hi hrt (by simp_all), Lb.t hi hlg (by assumption)⟩, rfl, rfl⟩ ?_ ?_ ?_)
        · exact (by repeat (first | exact Has.nil _ | refine Has.cons rfl ?_))
        · exact (by repeat (first | exact Has.nil _ | refine Has.cons rfl ?_))
        · exact SubH.refl _
      · skip
        refine ops_ro' rfl (ro_move rfl) rfl ?_
        refine ops_ro' rfl (ro_move rfl) rfl ?_
        refine ops_ro' rfl (ro_indexSlice sl64 rfl rfl rfl (by omega)) rfl ?_
        refine ops_ro' rfl (ro_fieldAddr fa120_0 rfl) rfl ?_
        refine ops_ro' rfl (ro_load sc9 rfl (Rd.pick 0 rfl (Rd.elem (j := 0) (vw_rdn hN) Nm.len (List.getElem?_eq_getElem hi) rfl))) rfl ?_
        refine ops_ro' rfl (ro_lenS (t' := 0) Try.underlying9 rfl) rfl ?_
        refine ops_ro' rfl (ro_gtr rfl rfl rfl) rfl ?_
        refine ops_ro' rfl (ro_pick rfl rfl) rfl ?_
        refine ops_ro' rfl (ro_assign rfl) rfl ?_
        refine ops_nil ?_
        refine InBlock_normal ?_
        refine Then_normal ?_
        refine wp_region' ?_
        refine ops_ro' rfl (ro_move rfl) rfl ?_
        refine ops_ro' rfl (ro_add rfl rfl (wrap_inc (by omega))) rfl ?_
        refine ops_ro' rfl (ro_assign rfl) rfl ?_
        refine ops_nil ?_
        refine Then_normal ?_
        refine back (m - 1) (by omega) (kept ⟨i + 1, decide ((256 : Int) < (ns[i].n.length : Int)), ⟨by omega, Rt.snoc hi hrt (by simp_all), Lb.f hi hlg (by simp_all)⟩, rfl, rfl⟩ ?_ ?_ ?_)
        · exact (by repeat (first | exact Has.nil _ | refine Has.cons rfl ?_))
        · exact (by repeat (first | exact Has.nil _ | refine Has.cons rfl ?_))
        · exact SubH.refl _
  · replace hc12 := of_decide_eq_false hc12
    refine wp_exit' ?_
    refine Then_exit ?_
    refine Then_exit ?_
    refine InBlock_here ?_
    refine Then_normal ?_
    refine wp_seq' ?_
    refine wp_seq' ?_
    rw [List.take_of_length_le (by omega)] at hrt hlg
    refine wp_region' ?_
    refine ops_ro' rfl (ro_move rfl) rfl ?_
    refine ops_nil ?_
    refine Then_normal ?_
    refine wp_cond' rfl (fun hc32 => ?_) (fun hc32 => ?_)
    · skip
      refine wp_seq' ?_
      refine wp_region' ?_
      refine ops_ro' rfl (ro_assign rfl) rfl ?_
      refine ops_ro' rfl (ro_assign rfl) rfl ?_
      refine ops_nil ?_
      refine Then_normal ?_
      refine wp_ret' ?_
      refine Then_ret ?_
      refine' doneS_ret (res2 rfl rfl rfl) ?_ ?_
      rotate_left 1
      have HE : namesE ns = 3 := by unfold namesE; rw [if_neg (rt_no hrt), if_pos (hlg.1 (by assumption))]
      have HB : namB l ns = [] := by unfold namB; rw [if_neg (by rw [HE]; decide)]
      rw [HE, HB]
      exact ⟨_, ⟨none, 0, rfl, rfl⟩, rfl⟩
      exact (SubH.rown (SubH.cons 0 rfl (SubH.nil _)))
    · skip
      refine wp_skip' ?_
      refine Then_normal ?_
      refine wp_seq' ?_
      refine wp_seq' ?_
      refine wp_region' ?_
      refine ops_ro' rfl (ro_move rfl) rfl ?_
      refine ops_ro' rfl (ro_sliceLen Try.underlying64 rfl) rfl ?_
      refine ops_ro' rfl (ro_gtr rfl rfl rfl) rfl ?_
      refine ops_nil ?_
      refine Then_normal ?_
      refine wp_cond' rfl (fun hc35 => ?_) (fun hc35 => ?_)
      · replace hc35 := of_decide_eq_true hc35
        refine wp_seq' ?_
        refine wp_region' ?_
        refine ops_ro' rfl (ro_assign rfl) rfl ?_
        refine ops_ro' rfl (ro_assign rfl) rfl ?_
        refine ops_nil ?_
        refine Then_normal ?_
        refine wp_ret' ?_
        refine Then_ret ?_
        refine' doneS_ret (res2 rfl rfl rfl) ?_ ?_
        rotate_left 1
        have HE : namesE ns = 4 := by unfold namesE; rw [if_neg (rt_no hrt), if_neg (fun h => absurd (hlg.2 h) (by simp_all)), if_pos (by omega)]
        have HB : namB l ns = [] := by unfold namB; rw [if_neg (by rw [HE]; decide)]
        rw [HE, HB]
        exact ⟨_, ⟨none, 0, rfl, rfl⟩, rfl⟩
        exact (SubH.rown (SubH.cons 0 rfl (SubH.nil _)))
      · replace hc35 := of_decide_eq_false hc35
        refine wp_skip' ?_
        refine Then_normal ?_
        refine wp_seq' ?_
        refine wp_region' ?_
        refine ops_ro' rfl (ro_move rfl) rfl ?_
        refine ops_ro' rfl (ro_move rfl) rfl ?_
        refine ops_ro' rfl (ro_sliceLen Try.underlying64 rfl) rfl ?_
        refine ops_ro' rfl (ro_conv Try.underlying3 Try.underlying40 rfl (wrap_u32_in (by omega) (by omega))) rfl ?_
        refine ops_eff' rfl (eff_callM (Pre := []) Try.call53 rfl rfl (Split.nil _) (qwU32 _ _ l (by first | exact (Vw.pick 0 rfl hL) | exact (Vw.pick 1 rfl hL) | exact (Vw.pick 2 rfl hL) | exact (Vw.pick 3 rfl hL) | exact (Vw.pick 4 rfl hL) | exact (Vw.pick 5 rfl hL) | exact Vw.pick 0 rfl Vw.row | exact Vw.pick 1 rfl Vw.row | exact Vw.pick 2 rfl Vw.row | exact Vw.pick 3 rfl Vw.row | exact Vw.pick 4 rfl Vw.row | exact Vw.pick 5 rfl Vw.row | exact Vw.nil _ | exact Vw.empty _ _) (by omega) ns.length)) rfl ?_
        rintro _ H' ⟨_, ⟨p0, c0, rfl, rfl⟩, hH⟩
        simp only [List.cons_append, List.nil_append, List.eraseIdx_cons_zero, List.eraseIdx_cons_succ, List.set_cons_zero, List.set_cons_succ] at hH
        subst hH
        obtain ⟨l0, hl0⟩ : ∃ z, z = l ++ be ns.length 4 := ⟨_, rfl⟩
        rw [← hl0]
        have n0 : l0.length ≤ 1004 := by rw [hl0, List.length_append, be_length]; omega
        have HE : namesE ns = 0 := by unfold namesE; rw [if_neg (rt_no hrt), if_neg (fun h => absurd (hlg.2 h) (by simp_all)), if_neg (by omega)]
        refine ops_ro' rfl (ro_assign rfl) rfl ?_
        refine ops_nil ?_
        refine Then_normal ?_
        refine wp_seq' ?_
        refine wp_seq' ?_
        refine wp_region' ?_
        refine ops_ro' rfl (ro_assign rfl) rfl ?_
        refine ops_nil ?_
        refine Then_normal ?_
        refine wp_block' ?_
        refine wp_loopK 14 (fun m Δ LL => ∃ (i : Nat) (p1 : Option Addr) (c1 : Nat) (l1 : List UInt8), (i + m = ns.length ∧ l1 = l0 ++ (ns.take i).flatMap nmE ∧ l1.length ≤ 1004 + 700 * i) ∧ Δ = [(0, .slice p1 l1.length c1), (8, .int .i64 (i : Nat))] ∧ LL = [row 5 1 (.slice p1 l1.length c1) l1.length (cel l1), V]) (m := ns.length) (Has.cons (k := 1) rfl (Has.nil _)) (kept ⟨0, p0, c0, l0, ⟨by omega, by simp, by omega⟩, rfl, rfl⟩ (by repeat (first | exact Has.nil _ | refine Has.cons rfl ?_)) (by repeat (first | exact Has.nil _ | refine Has.cons rfl ?_)) (by repeat (first | exact SubH.nil _ | refine SubH.cons 0 rfl ?_ | refine SubH.cons 1 rfl ?_ | refine SubH.cons 2 rfl ?_ | refine SubH.cons 3 rfl ?_ | refine SubH.cons 4 rfl ?_ | refine SubH.cons 5 rfl ?_ | refine SubH.cons 6 rfl ?_ | refine SubH.cons 7 rfl ?_ | refine SubH.cons 8 rfl ?_ | refine SubH.cons 9 rfl ?_ | refine SubH.cons 10 rfl ?_ | refine SubH.cons 11 rfl ?_ | refine SubH.cons 12 rfl ?_ | refine SubH.cons 13 rfl ?_ | refine SubH.rown ?_))) ?_
        rintro m Δ LL ⟨i, p1, c1, l1, ⟨hm, e1, n1⟩, rfl, rfl⟩
        simp only [List.cons_append, List.nil_append]
        refine wp_seq' ?_
        refine wp_seq' ?_
        refine wp_region' ?_
        refine ops_ro' rfl (ro_move rfl) rfl ?_
        refine ops_ro' rfl (ro_move rfl) rfl ?_
        refine ops_ro' rfl (ro_sliceLen Try.underlying64 rfl) rfl ?_
        refine ops_ro' rfl (ro_lss rfl rfl rfl) rfl ?_
        refine ops_nil ?_
        refine Then_normal ?_
        refine wp_cond' rfl (fun hc44 => ?_) (fun hc44 => ?_)
        · replace hc44 := of_decide_eq_true hc44
          refine wp_skip' ?_
          refine Then_normal ?_
          refine wp_seq' ?_
          refine wp_block' ?_
          have hi : i < ns.length := by omega
          have hn1 := hS _ (List.getElem_mem hi)
          have hao := hO _ (List.getElem_mem hi)
          have hel := At.enc_le2 ns[i].at'
          refine wp_know (fun w F s => vw_ptr (Vw.pick (H := [_, V]) 1 rfl hN) s (by omega)) ?_
          rintro ⟨b0, o0, rfl⟩
          refine wp_draw 19 (by kernel_rfl) (Split.cons 1 rfl (Split.nil _)) ?_
          refine any_ro' (i := 0) (by kernel_rfl) rfl rfl (ro_move rfl) rfl (fun _ _ _ h => h) ?_
          refine any_ro' (i := 1) (by kernel_rfl) rfl rfl (ro_move rfl) rfl (fun _ _ _ h => h) ?_
          refine any_ro' (i := 2) (by kernel_rfl) rfl rfl (ro_move rfl) rfl (fun _ _ _ h => h) ?_
          refine any_ro' (i := 3) (by kernel_rfl) rfl rfl (ro_indexSlice sl64 rfl rfl rfl (by omega)) rfl (fun _ _ _ h => h) ?_
          refine any_ro' (i := 4) (by kernel_rfl) rfl rfl (ro_fieldAddr fa120_0 rfl) rfl (fun _ _ _ h => h) ?_
          refine any_ro' (i := 5) (by kernel_rfl) rfl rfl (ro_load sc9 rfl (Rd.pick 0 rfl (Rd.elem (j := 0) (vw_rdn hN) Nm.len (List.getElem?_eq_getElem hi) rfl))) rfl (fun _ _ _ h => h) ?_
          refine any_ro' (i := 7) (by kernel_rfl) rfl rfl (ro_move rfl) rfl (fun _ _ _ h => h) ?_
          refine any_ro' (i := 8) (by kernel_rfl) rfl rfl (ro_move rfl) rfl (fun _ _ _ h => h) ?_
          refine any_ro' (i := 9) (by kernel_rfl) rfl rfl (ro_indexSlice sl64 rfl rfl rfl (by omega)) rfl (fun _ _ _ h => h) ?_
          refine any_ro' (i := 10) (by kernel_rfl) rfl rfl (ro_fieldAddr fa120_0 rfl) rfl (fun _ _ _ h => h) ?_
          refine any_ro' (i := 11) (by kernel_rfl) rfl rfl (ro_load sc9 rfl (Rd.pick 0 rfl (Rd.elem (j := 0) (vw_rdn hN) Nm.len (List.getElem?_eq_getElem hi) rfl))) rfl (fun _ _ _ h => h) ?_
          refine any_ro' (i := 13) (by kernel_rfl) rfl rfl (ro_move rfl) rfl (fun _ _ _ h => h) ?_
          refine any_ro' (i := 14) (by kernel_rfl) rfl rfl (ro_move rfl) rfl (fun _ _ _ h => h) ?_
          refine any_ro' (i := 15) (by kernel_rfl) rfl rfl (ro_indexSlice sl64 rfl rfl rfl (by omega)) rfl (fun _ _ _ h => h) ?_
          refine any_ro' (i := 16) (by kernel_rfl) rfl rfl (ro_fieldAddr fa120_1 rfl) rfl (fun _ _ _ h => h) ?_
          refine any_ro' (i := 17) (by kernel_rfl) rfl rfl (ro_loadA ag54 rfl (RdN.of_pick 0 rfl ((RdN.drp (RdN.elem (vw_rdn hN) Nm.len (List.getElem?_eq_getElem hi)) 1))) rfl) rfl (fun _ _ _ h => h) ?_
          refine any_eff' (i := 6) (by kernel_rfl) rfl rfl (eff_callM (Pre := []) Try.call44 rfl rfl (Split.nil _) (qwText _ _ l1 (Vw.pick 0 rfl Vw.row) (by omega) ns[i].n (by omega))) rfl ?_
          rintro _ H' ⟨_, ⟨p53, c53, rfl, rfl⟩, hH⟩
          simp only [List.cons_append, List.nil_append, List.eraseIdx_cons_zero, List.eraseIdx_cons_succ, List.set_cons_zero, List.set_cons_succ] at hH
          subst hH
          obtain ⟨z53, hz53⟩ : ∃ z, z = l1 ++ be ns[i].n.length 4 ++ ns[i].n := ⟨_, rfl⟩
          rw [← hz53]
          have hzl53 : z53.length ≤ 1004 + 700 * i + 304 := by rw [hz53]; simp only [List.length_append, be_length]; omega
          refine any_eff' (i := 12) (by kernel_rfl) rfl rfl (eff_callM (Pre := []) Try.call44 rfl rfl (Split.nil _) (qwText _ _ z53 (Vw.pick 0 rfl Vw.row) (by omega) ns[i].n (by omega))) rfl ?_
          rintro _ H' ⟨_, ⟨p59, c59, rfl, rfl⟩, hH⟩
          simp only [List.cons_append, List.nil_append, List.eraseIdx_cons_zero, List.eraseIdx_cons_succ, List.set_cons_zero, List.set_cons_succ] at hH
          subst hH
          obtain ⟨z59, hz59⟩ : ∃ z, z = z53 ++ be ns[i].n.length 4 ++ ns[i].n := ⟨_, rfl⟩
          rw [← hz59]
          have hzl59 : z59.length ≤ 1004 + 700 * i + 608 := by rw [hz59]; simp only [List.length_append, be_length]; omega
          refine any_eff' (i := 18) (by kernel_rfl) rfl rfl (eff_callM (Pre := []) Try.call71 rfl rfl (Split.nil _) (q14put _ _ z59 (Vw.pick 0 rfl Vw.row) (by omega) ns[i].at' hao)) rfl ?_
          rintro _ H' ⟨_, ⟨p65, c65, rfl, rfl⟩, hH⟩
          simp only [List.cons_append, List.nil_append, List.eraseIdx_cons_zero, List.eraseIdx_cons_succ, List.set_cons_zero, List.set_cons_succ] at hH
          subst hH
          obtain ⟨z65, hz65⟩ : ∃ z, z = z59 ++ ns[i].at'.enc := ⟨_, rfl⟩
          rw [← hz65]
          have hzl65 : z65.length ≤ 1004 + 700 * i + 700 := by rw [hz65]; simp only [List.length_append, be_length]; omega
          refine any_unlock (m' := 20) (L' := []) (by kernel_rfl) unlock ?_
          simp only [List.cons_append, List.nil_append, List.append_nil]
          refine any_ro' (i := 19) (by kernel_rfl) rfl rfl (ro_assign rfl) rfl (fun _ _ _ h => h) ?_
          refine any_doneH (by kernel_rfl) ?_
          refine InBlock_normal ?_
          refine Then_normal ?_
          refine wp_region' ?_
          refine ops_ro' rfl (ro_move rfl) rfl ?_
          refine ops_ro' rfl (ro_add rfl rfl (wrap_inc (by omega))) rfl ?_
          refine ops_ro' rfl (ro_assign rfl) rfl ?_
          refine ops_nil ?_
          refine Then_normal ?_
          refine back (m - 1) (by omega) (kept ⟨i + 1, p65, c65, z65, ⟨by omega, by rw [hz65, hz59, hz53, e1, nm_snoc hi]; simp only [nmE, txB, List.append_assoc], by omega⟩, rfl, rfl⟩ ?_ ?_ ?_)
          · exact (by repeat (first | exact Has.nil _ | refine Has.cons rfl ?_))
          · exact (by repeat (first | exact Has.nil _ | refine Has.cons rfl ?_))
          · exact (SubH.cons 1 rfl (SubH.cons 0 rfl (SubH.nil _)))
        · replace hc44 := of_decide_eq_false hc44
          refine wp_exit' ?_
          refine Then_exit ?_
          refine Then_exit ?_
          refine InBlock_here ?_
          refine Then_normal ?_
          refine wp_seq' ?_
          refine wp_region' ?_
          refine ops_ro' rfl (ro_move rfl) rfl ?_
          refine ops_ro' rfl (ro_assign rfl) rfl ?_
          refine ops_ro' rfl (ro_assign rfl) rfl ?_
          refine ops_nil ?_
          refine Then_normal ?_
          refine wp_ret' ?_
          refine' doneS_ret (res2 rfl rfl rfl) ?_ ?_
          rotate_left 1
          have HB : namB l ns = l1 := by unfold namB; rw [if_pos HE, e1, hl0, List.take_of_length_le (by omega)]
          rw [HE, HB]
          exact ⟨_, ⟨p1, c1, rfl, rfl⟩, rfl⟩
          exact SubH.refl _


theorem r17EncP_spec (V : HProp) (id : Nat) (hid : id < 4294967296) (c : Pc) (dp : Option Addr) (dn : Nat) (np : Option Addr) (nn : Nat) (hk : c.Ok V dp dn np nn) (hsh : c.h.length ≤ 300) (hsd : c.d.length ≤ 300) (hsn : c.ns.length ≤ 1000) (hsx : ∀ x ∈ c.ns, x.n.length ≤ 300) : Tri Try.prog 34 [.int .u32 (id : Int), c.v dp dn np nn] [V]
    (fun v H' => ∃ K, (∃ p n, v = .tuple #[.slice p (encP id c).length n, .int .i64 (fineE c)] ∧ K = [row 5 1 (.slice p (encP id c).length n) (encP id c).length (cel (encP id c))]) ∧ H' = K ++ [V]) := by
  refine tri_of_wpS Try.func34 rfl Try.ntmps34 (by simp) ?_
  refine wp_seq' ?_
  refine wp_region' ?_
  refine ops_eff' rfl (eff_box rfl) rfl ?_
  rintro _ _ ⟨b3, rfl, rfl⟩
  refine ops_ro' rfl (ro_assign rfl) rfl ?_
  refine ops_ro' rfl (ro_assign rfl) rfl ?_
  refine ops_nil ?_
  refine Then_normal ?_
  refine wp_seq' ?_
  refine wp_seq' ?_
  refine wp_region' ?_
  refine ops_ro' rfl (ro_fieldAddr fa66_0 rfl) rfl ?_
  refine ops_ro' rfl (ro_load sc3 rfl (Rd.pick 0 rfl (Rd.own rfl))) rfl ?_
  refine ops_ro' rfl (ro_lss rfl rfl rfl) rfl ?_
  refine ops_split rfl rfl rfl (fun hg10 => ?_) (fun hg10 => ?_)
  · replace hg10 := of_decide_eq_true hg10
    refine ops_skip' rfl rfl ?_
    refine ops_skip' rfl rfl ?_
    refine ops_skip' rfl rfl ?_
    refine ops_ro' rfl (ro_pick rfl rfl) rfl ?_
    refine ops_nil ?_
    refine Then_normal ?_
    refine wp_condT rfl ?_
    refine wp_seq' ?_
    refine wp_region' ?_
    refine ops_ro' rfl (ro_assign rfl) rfl ?_
    refine ops_ro' rfl (ro_assign rfl) rfl ?_
    refine ops_nil ?_
    refine Then_normal ?_
    refine wp_ret' ?_
    refine Then_ret ?_
    refine' doneS_ret (res2 rfl rfl rfl) ?_ ?_
    rotate_left 1
    have HE : fineE c = 23 := by unfold fineE; rw [if_neg (by omega)]; rw [if_neg (by omega)]; rw [if_neg (by omega)]; rw [if_neg (by omega)]; rw [if_neg (by omega)]
    have HB : encP id c = [] := by unfold encP; rw [if_neg (by rw [HE]; decide)]
    rw [HE, HB]
    exact ⟨_, ⟨none, 0, rfl, rfl⟩, rfl⟩
    exact (SubH.rown (SubH.cons 1 rfl (SubH.nil _)))
  · replace hg10 := of_decide_eq_false hg10
    refine ops_ro' rfl (ro_fieldAddr fa66_0 rfl) rfl ?_
    refine ops_ro' rfl (ro_load sc3 rfl (Rd.pick 0 rfl (Rd.own rfl))) rfl ?_
    refine ops_ro' rfl (ro_gtr rfl rfl rfl) rfl ?_
    refine ops_ro' rfl (ro_pick rfl rfl) rfl ?_
    refine ops_nil ?_
    refine Then_normal ?_
    refine wp_cond' rfl (fun hc14 => ?_) (fun hc14 => ?_)
    · replace hc14 := of_decide_eq_true hc14
      refine wp_seq' ?_
      refine wp_region' ?_
      refine ops_ro' rfl (ro_assign rfl) rfl ?_
      refine ops_ro' rfl (ro_assign rfl) rfl ?_
      refine ops_nil ?_
      refine Then_normal ?_
      refine wp_ret' ?_
      refine Then_ret ?_
      refine' doneS_ret (res2 rfl rfl rfl) ?_ ?_
      rotate_left 1
      have HE : fineE c = 23 := by unfold fineE; rw [if_neg (by omega)]; rw [if_neg (by omega)]; rw [if_neg (by omega)]; rw [if_neg (by omega)]; rw [if_neg (by omega)]
      have HB : encP id c = [] := by unfold encP; rw [if_neg (by rw [HE]; decide)]
      rw [HE, HB]
      exact ⟨_, ⟨none, 0, rfl, rfl⟩, rfl⟩
      exact (SubH.rown (SubH.cons 1 rfl (SubH.nil _)))
    · replace hc14 := of_decide_eq_false hc14
      refine wp_skip' ?_
      refine Then_normal ?_
      refine wp_seq' ?_
      have hkk := hk.k
      obtain ⟨l0, hl00⟩ : ∃ z, [b8 (100 + c.k)] ++ be id 4 = z := ⟨_, rfl⟩
      have hl0 : l0 = b8 (100 + c.k) :: be id 4 := hl00.symm
      have n0 : l0.length = 5 := by rw [hl0, List.length_cons, be_length]
      refine wp_region' ?_
      refine ops_ro' rfl (ro_fieldAddr fa66_0 rfl) rfl ?_
      refine ops_ro' rfl (ro_load sc3 rfl (Rd.pick 0 rfl (Rd.own rfl))) rfl ?_
      refine ops_ro' rfl (ro_add rfl rfl (wrap_i64_in (by omega) (by omega))) rfl ?_
      refine ops_ro' rfl (ro_conv Try.underlying3 Try.underlying5 rfl (conv_b8 (100 + c.k))) rfl ?_
      refine ops_eff' rfl (eff_lit sl32 rfl (sbld (cs := cel [b8 (100 + c.k)]) [(.int .u8 0)] sl32 (by decide) (by kernel_rfl) rfl) rfl (by decide)) rfl ?_
      rintro _ _ ⟨b19, rfl, rfl⟩
      refine ops_ro' rfl (ro_move rfl) rfl ?_
      refine ops_eff' rfl (eff_callM (Pre := []) Try.call53 rfl rfl (Split.nil _) (qwU32_tw _ _ [b8 (100 + c.k)] (by first | exact (Vw.pick 0 rfl hk.d) | exact (Vw.pick 1 rfl hk.d) | exact (Vw.pick 2 rfl hk.d) | exact (Vw.pick 3 rfl hk.d) | exact (Vw.pick 4 rfl hk.d) | exact (Vw.pick 5 rfl hk.d) | exact (Vw.pick 0 rfl hk.n) | exact (Vw.pick 1 rfl hk.n) | exact (Vw.pick 2 rfl hk.n) | exact (Vw.pick 3 rfl hk.n) | exact (Vw.pick 4 rfl hk.n) | exact (Vw.pick 5 rfl hk.n) | exact Vw.pick 0 rfl Vw.row | exact Vw.pick 1 rfl Vw.row | exact Vw.pick 2 rfl Vw.row | exact Vw.pick 3 rfl Vw.row | exact Vw.pick 4 rfl Vw.row | exact Vw.pick 5 rfl Vw.row | exact Vw.nil _ | exact Vw.empty _ _) (by simp) id hl00)) rfl ?_
      rintro _ H' ⟨_, ⟨p0, c0, rfl, rfl⟩, hH⟩
      simp only [List.cons_append, List.nil_append, List.eraseIdx_cons_zero, List.eraseIdx_cons_succ, List.set_cons_zero, List.set_cons_succ] at hH
      subst hH
      refine ops_ro' rfl (ro_assign rfl) rfl ?_
      refine ops_nil ?_
      refine Then_normal ?_
      refine wp_cutK 1023 (fun Δ LL => ∃ (p2 : Option Addr) (c2 : Nat) (l2 : List UInt8), (l2 = repB id c ∧ fineE c = 0) ∧ Δ = [(6, .slice p2 l2.length c2)] ∧ LL = [own b3 (.cells (c.cs dp dn np nn).toArray 66 (0, 0)), row 5 1 (.slice p2 l2.length c2) l2.length (cel l2), V]) (Has.nil _) ?_ ?_
      · refine wp_seq' ?_
        refine wp_region' ?_
        refine ops_ro' rfl (ro_fieldAddr fa66_0 rfl) rfl ?_
        refine ops_ro' rfl (ro_load sc3 rfl (Rd.pick 2 rfl (Rd.own rfl))) rfl ?_
        refine ops_nil ?_
        refine Then_normal ?_
        refine wp_block' ?_
        refine wp_seq' ?_
        refine wp_region' ?_
        refine ops_ro' rfl (ro_eql rfl rfl rfl) rfl ?_
        refine ops_ro' rfl (ro_assign rfl) rfl ?_
        refine ops_nil ?_
        refine Then_normal ?_
        refine wp_cond' rfl (fun hc24 => ?_) (fun hc24 => ?_)
        · replace hc24 := of_decide_eq_true hc24
          refine wp_seq' ?_
          refine wp_seq' ?_
          refine wp_region' ?_
          refine ops_ro' rfl (ro_fieldAddr fa66_1 rfl) rfl ?_
          refine ops_ro' rfl (ro_load sc3 rfl (Rd.pick 2 rfl (Rd.own rfl))) rfl ?_
          refine ops_ro' rfl (ro_lss rfl rfl rfl) rfl ?_
          refine ops_split rfl rfl rfl (fun hg29 => ?_) (fun hg29 => ?_)
          · replace hg29 := of_decide_eq_true hg29
            refine ops_skip' rfl rfl ?_
            refine ops_skip' rfl rfl ?_
            refine ops_skip' rfl rfl ?_
            refine ops_ro' rfl (ro_pick rfl rfl) rfl ?_
            refine ops_nil ?_
            refine Then_normal ?_
            refine wp_condT rfl ?_
            refine wp_seq' ?_
            refine wp_region' ?_
            refine ops_ro' rfl (ro_assign rfl) rfl ?_
            refine ops_ro' rfl (ro_assign rfl) rfl ?_
            refine ops_nil ?_
            refine Then_normal ?_
            refine wp_ret' ?_
            refine Then_ret ?_
            refine InBlock_ret ?_
            refine Then_ret ?_
            refine' doneS_ret (res2 rfl rfl rfl) ?_ ?_
            rotate_left 1
            have HE : fineE c = 12 := by unfold fineE; rw [if_pos (by omega)]; rw [if_pos (by omega)]
            have HB : encP id c = [] := by unfold encP; rw [if_neg (by rw [HE]; decide)]
            rw [HE, HB]
            exact ⟨_, ⟨none, 0, rfl, rfl⟩, rfl⟩
            exact (SubH.rown (SubH.cons 3 rfl (SubH.nil _)))
          · replace hg29 := of_decide_eq_false hg29
            refine ops_ro' rfl (ro_fieldAddr fa66_1 rfl) rfl ?_
            refine ops_ro' rfl (ro_load sc3 rfl (Rd.pick 2 rfl (Rd.own rfl))) rfl ?_
            refine ops_ro' rfl (ro_gtr rfl rfl rfl) rfl ?_
            refine ops_ro' rfl (ro_pick rfl rfl) rfl ?_
            refine ops_nil ?_
            refine Then_normal ?_
            refine wp_cond' rfl (fun hc33 => ?_) (fun hc33 => ?_)
            · replace hc33 := of_decide_eq_true hc33
              refine wp_seq' ?_
              refine wp_region' ?_
              refine ops_ro' rfl (ro_assign rfl) rfl ?_
              refine ops_ro' rfl (ro_assign rfl) rfl ?_
              refine ops_nil ?_
              refine Then_normal ?_
              refine wp_ret' ?_
              refine Then_ret ?_
              refine InBlock_ret ?_
              refine Then_ret ?_
              refine' doneS_ret (res2 rfl rfl rfl) ?_ ?_
              rotate_left 1
              have HE : fineE c = 12 := by unfold fineE; rw [if_pos (by omega)]; rw [if_pos (by omega)]
              have HB : encP id c = [] := by unfold encP; rw [if_neg (by rw [HE]; decide)]
              rw [HE, HB]
              exact ⟨_, ⟨none, 0, rfl, rfl⟩, rfl⟩
              exact (SubH.rown (SubH.cons 3 rfl (SubH.nil _)))
            · replace hc33 := of_decide_eq_false hc33
              refine wp_skip' ?_
              refine Then_normal ?_
              have hs : 0 ≤ c.s ∧ c.s ≤ 2147483647 := by omega
              refine wp_region' ?_
              refine ops_ro' rfl (ro_move rfl) rfl ?_
              refine ops_ro' rfl (ro_fieldAddr fa66_1 rfl) rfl ?_
              refine ops_ro' rfl (ro_load sc3 rfl (Rd.pick 2 rfl (Rd.own rfl))) rfl ?_
              refine ops_ro' rfl (ro_conv Try.underlying3 Try.underlying40 rfl (show IntKind.u32.wrap c.s = ((c.s.toNat : Nat) : Int) from by rw [wrap_u32_mod]; omega)) rfl ?_
              refine ops_eff' rfl (eff_callM (Pre := []) Try.call53 rfl rfl (Split.nil _) (qwU32 _ _ l0 (by first | exact (Vw.pick 0 rfl hk.d) | exact (Vw.pick 1 rfl hk.d) | exact (Vw.pick 2 rfl hk.d) | exact (Vw.pick 3 rfl hk.d) | exact (Vw.pick 4 rfl hk.d) | exact (Vw.pick 5 rfl hk.d) | exact (Vw.pick 0 rfl hk.n) | exact (Vw.pick 1 rfl hk.n) | exact (Vw.pick 2 rfl hk.n) | exact (Vw.pick 3 rfl hk.n) | exact (Vw.pick 4 rfl hk.n) | exact (Vw.pick 5 rfl hk.n) | exact Vw.pick 0 rfl Vw.row | exact Vw.pick 1 rfl Vw.row | exact Vw.pick 2 rfl Vw.row | exact Vw.pick 3 rfl Vw.row | exact Vw.pick 4 rfl Vw.row | exact Vw.pick 5 rfl Vw.row | exact Vw.nil _ | exact Vw.empty _ _) (by omega) c.s.toNat)) rfl ?_
              rintro _ H' ⟨_, ⟨p38, c38, rfl, rfl⟩, hH⟩
              simp only [List.cons_append, List.nil_append, List.eraseIdx_cons_zero, List.eraseIdx_cons_succ, List.set_cons_zero, List.set_cons_succ] at hH
              subst hH
              obtain ⟨z38, hz38⟩ : ∃ z, z = l0 ++ be c.s.toNat 4 := ⟨_, rfl⟩
              rw [← hz38]
              have hzl38 : z38.length ≤ 9 := by rw [hz38]; simp only [List.length_append, be_length]; omega
              refine ops_eff' rfl (eff_callM (Pre := []) Try.call44 rfl rfl (Split.nil _) (qwText _ _ z38 (by first | exact (Vw.pick 0 rfl hk.d) | exact (Vw.pick 1 rfl hk.d) | exact (Vw.pick 2 rfl hk.d) | exact (Vw.pick 3 rfl hk.d) | exact (Vw.pick 4 rfl hk.d) | exact (Vw.pick 5 rfl hk.d) | exact (Vw.pick 0 rfl hk.n) | exact (Vw.pick 1 rfl hk.n) | exact (Vw.pick 2 rfl hk.n) | exact (Vw.pick 3 rfl hk.n) | exact (Vw.pick 4 rfl hk.n) | exact (Vw.pick 5 rfl hk.n) | exact Vw.pick 0 rfl Vw.row | exact Vw.pick 1 rfl Vw.row | exact Vw.pick 2 rfl Vw.row | exact Vw.pick 3 rfl Vw.row | exact Vw.pick 4 rfl Vw.row | exact Vw.pick 5 rfl Vw.row | exact Vw.nil _ | exact Vw.empty _ _) (by omega) [] (by simp; omega))) rfl ?_
              rintro _ H' ⟨_, ⟨p39, c39, rfl, rfl⟩, hH⟩
              simp only [List.cons_append, List.nil_append, List.eraseIdx_cons_zero, List.eraseIdx_cons_succ, List.set_cons_zero, List.set_cons_succ] at hH
              subst hH
              obtain ⟨z39, hz39⟩ : ∃ z, z = z38 ++ be ([] : List UInt8).length 4 ++ [] := ⟨_, rfl⟩
              rw [← hz39]
              have hzl39 : z39.length ≤ 13 := by rw [hz39]; simp only [List.length_append, be_length, List.length_nil]; omega
              refine ops_eff' rfl (eff_callM (Pre := []) Try.call44 rfl rfl (Split.nil _) (qwText _ _ z39 (by first | exact (Vw.pick 0 rfl hk.d) | exact (Vw.pick 1 rfl hk.d) | exact (Vw.pick 2 rfl hk.d) | exact (Vw.pick 3 rfl hk.d) | exact (Vw.pick 4 rfl hk.d) | exact (Vw.pick 5 rfl hk.d) | exact (Vw.pick 0 rfl hk.n) | exact (Vw.pick 1 rfl hk.n) | exact (Vw.pick 2 rfl hk.n) | exact (Vw.pick 3 rfl hk.n) | exact (Vw.pick 4 rfl hk.n) | exact (Vw.pick 5 rfl hk.n) | exact Vw.pick 0 rfl Vw.row | exact Vw.pick 1 rfl Vw.row | exact Vw.pick 2 rfl Vw.row | exact Vw.pick 3 rfl Vw.row | exact Vw.pick 4 rfl Vw.row | exact Vw.pick 5 rfl Vw.row | exact Vw.nil _ | exact Vw.empty _ _) (by omega) [] (by simp; omega))) rfl ?_
              rintro _ H' ⟨_, ⟨p40, c40, rfl, rfl⟩, hH⟩
              simp only [List.cons_append, List.nil_append, List.eraseIdx_cons_zero, List.eraseIdx_cons_succ, List.set_cons_zero, List.set_cons_succ] at hH
              subst hH
              obtain ⟨z40, hz40⟩ : ∃ z, z = z39 ++ be ([] : List UInt8).length 4 ++ [] := ⟨_, rfl⟩
              rw [← hz40]
              have hzl40 : z40.length ≤ 17 := by rw [hz40]; simp only [List.length_append, be_length, List.length_nil]; omega
              refine ops_ro' rfl (ro_assign rfl) rfl ?_
              refine ops_nil ?_
              refine InBlock_normal ?_
              refine Then_normal ?_
              refine over_cut (kept ⟨p40, c40, z40, ⟨by rw [hz40, hz39, hz38, hl0]; unfold repB repBody; rw [if_pos (by omega)]; simp, by unfold fineE; rw [if_pos (by omega)]; rw [if_neg (by omega)]⟩, rfl, rfl⟩ ?_ ?_ ?_)
              · exact (by repeat (first | exact Has.nil _ | refine Has.cons rfl ?_))
              · exact (by repeat (first | exact Has.nil _ | refine Has.cons rfl ?_))
              · exact (SubH.cons 5 rfl (SubH.cons 0 rfl (SubH.cons 4 rfl (SubH.nil _))))
        · replace hc24 := of_decide_eq_false hc24
          refine wp_seq' ?_
          refine wp_region' ?_
          refine ops_ro' rfl (ro_eql rfl rfl rfl) rfl ?_
          refine ops_ro' rfl (ro_assign rfl) rfl ?_
          refine ops_nil ?_
          refine Then_normal ?_
          refine wp_cond' rfl (fun hc41 => ?_) (fun hc41 => ?_)
          · replace hc41 := of_decide_eq_true hc41
            refine wp_seq' ?_
            refine wp_seq' ?_
            refine wp_region' ?_
            refine ops_ro' rfl (ro_fieldAddr fa66_2 rfl) rfl ?_
            refine ops_ro' rfl (ro_load sc9 rfl (Rd.pick 2 rfl (Rd.own rfl))) rfl ?_
            refine ops_ro' rfl (ro_lenS (t' := 0) Try.underlying9 rfl) rfl ?_
            refine ops_ro' rfl (ro_gtr rfl rfl rfl) rfl ?_
            refine ops_nil ?_
            refine Then_normal ?_
            refine wp_cond' rfl (fun hc46 => ?_) (fun hc46 => ?_)
            · replace hc46 := of_decide_eq_true hc46
              refine wp_seq' ?_
              refine wp_region' ?_
              refine ops_ro' rfl (ro_assign rfl) rfl ?_
              refine ops_ro' rfl (ro_assign rfl) rfl ?_
              refine ops_nil ?_
              refine Then_normal ?_
              refine wp_ret' ?_
              refine Then_ret ?_
              refine InBlock_ret ?_
              refine Then_ret ?_
              refine' doneS_ret (res2 rfl rfl rfl) ?_ ?_
              rotate_left 1
              have HE : fineE c = 3 := by unfold fineE; rw [if_neg (by omega)]; rw [if_pos (by omega)]; rw [if_pos (by omega)]
              have HB : encP id c = [] := by unfold encP; rw [if_neg (by rw [HE]; decide)]
              rw [HE, HB]
              exact ⟨_, ⟨none, 0, rfl, rfl⟩, rfl⟩
              exact (SubH.rown (SubH.cons 3 rfl (SubH.nil _)))
            · replace hc46 := of_decide_eq_false hc46
              refine wp_skip' ?_
              refine Then_normal ?_
              refine wp_region' ?_
              refine ops_ro' rfl (ro_move rfl) rfl ?_
              refine ops_ro' rfl (ro_fieldAddr fa66_2 rfl) rfl ?_
              refine ops_ro' rfl (ro_load sc9 rfl (Rd.pick 2 rfl (Rd.own rfl))) rfl ?_
              refine ops_eff' rfl (eff_callM (Pre := []) Try.call44 rfl rfl (Split.nil _) (qwText _ _ l0 (by first | exact (Vw.pick 0 rfl hk.d) | exact (Vw.pick 1 rfl hk.d) | exact (Vw.pick 2 rfl hk.d) | exact (Vw.pick 3 rfl hk.d) | exact (Vw.pick 4 rfl hk.d) | exact (Vw.pick 5 rfl hk.d) | exact (Vw.pick 0 rfl hk.n) | exact (Vw.pick 1 rfl hk.n) | exact (Vw.pick 2 rfl hk.n) | exact (Vw.pick 3 rfl hk.n) | exact (Vw.pick 4 rfl hk.n) | exact (Vw.pick 5 rfl hk.n) | exact Vw.pick 0 rfl Vw.row | exact Vw.pick 1 rfl Vw.row | exact Vw.pick 2 rfl Vw.row | exact Vw.pick 3 rfl Vw.row | exact Vw.pick 4 rfl Vw.row | exact Vw.pick 5 rfl Vw.row | exact Vw.nil _ | exact Vw.empty _ _) (by omega) c.h (by omega))) rfl ?_
              rintro _ H' ⟨_, ⟨p50, c50, rfl, rfl⟩, hH⟩
              simp only [List.cons_append, List.nil_append, List.eraseIdx_cons_zero, List.eraseIdx_cons_succ, List.set_cons_zero, List.set_cons_succ] at hH
              subst hH
              obtain ⟨z50, hz50⟩ : ∃ z, z = l0 ++ be c.h.length 4 ++ c.h := ⟨_, rfl⟩
              rw [← hz50]
              have hzl50 : z50.length ≤ 400 := by rw [hz50]; simp only [List.length_append, be_length]; omega
              refine ops_ro' rfl (ro_assign rfl) rfl ?_
              refine ops_nil ?_
              refine InBlock_normal ?_
              refine Then_normal ?_
              refine over_cut (kept ⟨p50, c50, z50, ⟨by rw [hz50, hl0]; unfold repB repBody; rw [if_neg (by omega), if_pos (by omega)]; simp [txB], by unfold fineE; rw [if_neg (by omega)]; rw [if_pos (by omega)]; rw [if_neg (by omega)]⟩, rfl, rfl⟩ ?_ ?_ ?_)
              · exact (by repeat (first | exact Has.nil _ | refine Has.cons rfl ?_))
              · exact (by repeat (first | exact Has.nil _ | refine Has.cons rfl ?_))
              · exact (SubH.cons 3 rfl (SubH.cons 0 rfl (SubH.cons 2 rfl (SubH.nil _))))
          · replace hc41 := of_decide_eq_false hc41
            refine wp_seq' ?_
            refine wp_region' ?_
            refine ops_ro' rfl (ro_eql rfl rfl rfl) rfl ?_
            refine ops_ro' rfl (ro_assign rfl) rfl ?_
            refine ops_nil ?_
            refine Then_normal ?_
            refine wp_cond' rfl (fun hc51 => ?_) (fun hc51 => ?_)
            · replace hc51 := of_decide_eq_true hc51
              refine wp_seq' ?_
              refine wp_seq' ?_
              refine wp_region' ?_
              refine ops_ro' rfl (ro_fieldAddr fa66_3 rfl) rfl ?_
              refine ops_ro' rfl (ro_load sc32 rfl (Rd.pick 2 rfl (Rd.own rfl))) rfl ?_
              refine ops_ro' rfl (ro_sliceLen Try.underlying32 rfl) rfl ?_
              refine ops_ro' rfl (ro_gtr rfl rfl (decide_eq_false (by omega))) rfl ?_
              refine ops_nil ?_
              refine Then_normal ?_
              refine wp_condF rfl ?_
              refine wp_skip' ?_
              refine Then_normal ?_
              refine wp_region' ?_
              refine ops_ro' rfl (ro_move rfl) rfl ?_
              refine ops_ro' rfl (ro_fieldAddr fa66_3 rfl) rfl ?_
              refine ops_ro' rfl (ro_load sc32 rfl (Rd.pick 2 rfl (Rd.own rfl))) rfl ?_
              refine ops_ro' rfl (ro_toStr Try.underlying32 Try.underlying5 Try.underlying9 rfl (Vw.pick 3 rfl hk.d) rfl) rfl ?_
              refine ops_eff' rfl (eff_callM (Pre := []) Try.call44 rfl rfl (Split.nil _) (qwText _ _ l0 (by first | exact (Vw.pick 0 rfl hk.d) | exact (Vw.pick 1 rfl hk.d) | exact (Vw.pick 2 rfl hk.d) | exact (Vw.pick 3 rfl hk.d) | exact (Vw.pick 4 rfl hk.d) | exact (Vw.pick 5 rfl hk.d) | exact (Vw.pick 0 rfl hk.n) | exact (Vw.pick 1 rfl hk.n) | exact (Vw.pick 2 rfl hk.n) | exact (Vw.pick 3 rfl hk.n) | exact (Vw.pick 4 rfl hk.n) | exact (Vw.pick 5 rfl hk.n) | exact Vw.pick 0 rfl Vw.row | exact Vw.pick 1 rfl Vw.row | exact Vw.pick 2 rfl Vw.row | exact Vw.pick 3 rfl Vw.row | exact Vw.pick 4 rfl Vw.row | exact Vw.pick 5 rfl Vw.row | exact Vw.nil _ | exact Vw.empty _ _) (by omega) c.d (by omega))) rfl ?_
              rintro _ H' ⟨_, ⟨p61, c61, rfl, rfl⟩, hH⟩
              simp only [List.cons_append, List.nil_append, List.eraseIdx_cons_zero, List.eraseIdx_cons_succ, List.set_cons_zero, List.set_cons_succ] at hH
              subst hH
              obtain ⟨z61, hz61⟩ : ∃ z, z = l0 ++ be c.d.length 4 ++ c.d := ⟨_, rfl⟩
              rw [← hz61]
              have hzl61 : z61.length ≤ 40000 := by rw [hz61]; simp only [List.length_append, be_length]; omega
              refine ops_ro' rfl (ro_assign rfl) rfl ?_
              refine ops_nil ?_
              refine InBlock_normal ?_
              refine Then_normal ?_
              refine over_cut (kept ⟨p61, c61, z61, ⟨by rw [hz61, hl0]; unfold repB repBody; rw [if_neg (by omega), if_neg (by omega), if_pos (by omega)]; simp [txB], by unfold fineE; rw [if_neg (by omega)]; rw [if_neg (by omega)]; rw [if_pos (by omega)]; rw [if_neg (by omega)]⟩, rfl, rfl⟩ ?_ ?_ ?_)
              · exact (by repeat (first | exact Has.nil _ | refine Has.cons rfl ?_))
              · exact (by repeat (first | exact Has.nil _ | refine Has.cons rfl ?_))
              · exact (SubH.cons 3 rfl (SubH.cons 0 rfl (SubH.cons 2 rfl (SubH.nil _))))
            · replace hc51 := of_decide_eq_false hc51
              refine wp_seq' ?_
              refine wp_region' ?_
              refine ops_ro' rfl (ro_eql rfl rfl rfl) rfl ?_
              refine ops_ro' rfl (ro_assign rfl) rfl ?_
              refine ops_nil ?_
              refine Then_normal ?_
              refine wp_cond' rfl (fun hc62 => ?_) (fun hc62 => ?_)
              · replace hc62 := of_decide_eq_true hc62
                refine wp_seq' ?_
                refine wp_region' ?_
                refine ops_ro' rfl (ro_move rfl) rfl ?_
                refine ops_ro' rfl (ro_fieldAddr fa66_4 rfl) rfl ?_
                refine ops_ro' rfl (ro_load sc64 rfl (Rd.pick 2 rfl (Rd.own rfl))) rfl ?_
                refine ops_eff' rfl (eff_callM (Pre := []) Try.call72 rfl rfl (Split.nil _) (r17names_spec _ _ l0 (by first | exact (Vw.pick 0 rfl hk.d) | exact (Vw.pick 1 rfl hk.d) | exact (Vw.pick 2 rfl hk.d) | exact (Vw.pick 3 rfl hk.d) | exact (Vw.pick 4 rfl hk.d) | exact (Vw.pick 5 rfl hk.d) | exact (Vw.pick 0 rfl hk.n) | exact (Vw.pick 1 rfl hk.n) | exact (Vw.pick 2 rfl hk.n) | exact (Vw.pick 3 rfl hk.n) | exact (Vw.pick 4 rfl hk.n) | exact (Vw.pick 5 rfl hk.n) | exact Vw.pick 0 rfl Vw.row | exact Vw.pick 1 rfl Vw.row | exact Vw.pick 2 rfl Vw.row | exact Vw.pick 3 rfl Vw.row | exact Vw.pick 4 rfl Vw.row | exact Vw.pick 5 rfl Vw.row | exact Vw.nil _ | exact Vw.empty _ _) (by omega) np nn c.ns (by first | exact (Vw.pick 0 rfl hk.d) | exact (Vw.pick 1 rfl hk.d) | exact (Vw.pick 2 rfl hk.d) | exact (Vw.pick 3 rfl hk.d) | exact (Vw.pick 4 rfl hk.d) | exact (Vw.pick 5 rfl hk.d) | exact (Vw.pick 0 rfl hk.n) | exact (Vw.pick 1 rfl hk.n) | exact (Vw.pick 2 rfl hk.n) | exact (Vw.pick 3 rfl hk.n) | exact (Vw.pick 4 rfl hk.n) | exact (Vw.pick 5 rfl hk.n) | exact Vw.pick 0 rfl Vw.row | exact Vw.pick 1 rfl Vw.row | exact Vw.pick 2 rfl Vw.row | exact Vw.pick 3 rfl Vw.row | exact Vw.pick 4 rfl Vw.row | exact Vw.pick 5 rfl Vw.row | exact Vw.nil _ | exact Vw.empty _ _) hsn hk.no hsx)) rfl ?_
                rintro _ H' ⟨_, ⟨p67, c67, rfl, rfl⟩, hH⟩
                simp only [List.cons_append, List.nil_append, List.eraseIdx_cons_zero, List.eraseIdx_cons_succ, List.set_cons_zero, List.set_cons_succ] at hH
                subst hH
                refine ops_ro' rfl (ro_extract rfl rfl) rfl ?_
                refine ops_ro' rfl (ro_extract rfl rfl) rfl ?_
                refine ops_ro' rfl (ro_assign rfl) rfl ?_
                refine ops_ro' rfl (ro_assign rfl) rfl ?_
                refine ops_nil ?_
                refine Then_normal ?_
                refine wp_ret' ?_
                refine InBlock_ret ?_
                refine Then_ret ?_
                refine' doneS_ret (res2 rfl rfl rfl) ?_ ?_
                rotate_left 1
                have HE : fineE c = namesE c.ns := by unfold fineE; rw [if_neg (by omega)]; rw [if_neg (by omega)]; rw [if_neg (by omega)]; rw [if_pos (by omega)]
                have HB : encP id c = namB l0 c.ns := by
                  unfold encP namB
                  rw [HE]
                  split
                  · rw [hl0]; unfold repB repBody; rw [if_neg (by omega), if_neg (by omega), if_neg (by omega), if_pos (by omega)]; simp
                  · rfl
                rw [HE, HB]
                exact ⟨_, ⟨p67, c67, rfl, rfl⟩, rfl⟩
                exact (SubH.cons 0 rfl (SubH.cons 3 rfl (SubH.nil _)))
              · replace hc62 := of_decide_eq_false hc62
                refine wp_seq' ?_
                refine wp_region' ?_
                refine ops_ro' rfl (ro_eql rfl rfl (decide_eq_true (by omega))) rfl ?_
                refine ops_ro' rfl (ro_assign rfl) rfl ?_
                refine ops_nil ?_
                refine Then_normal ?_
                refine wp_condT rfl ?_
                refine wp_seq' ?_
                refine wp_seq' ?_
                refine wp_region' ?_
                refine ops_ro' rfl (ro_fieldAddr fa66_5 rfl) rfl ?_
                refine ops_ro' rfl (ro_loadA ag54 rfl (RdN.of_pick 2 rfl (rdn_sub 7)) rfl) rfl ?_
                refine ops_eff' rfl (eff_call Try.call70 rfl rfl (by repeat (first | exact Split.nil _ | apply Split.cons 0 rfl | apply Split.cons 1 rfl | apply Split.cons 2 rfl | apply Split.cons 3 rfl | apply Split.cons 4 rfl | apply Split.cons 5 rfl | apply Split.cons 6 rfl | apply Split.cons 7 rfl | apply Split.cons 8 rfl | apply Split.cons 9 rfl | apply Split.cons 10 rfl | apply Split.cons 11 rfl)) (q14right c.at' hk.at')) rfl ?_
                rintro _ H' ⟨_, ⟨rfl, rfl⟩, hH⟩
                simp only [List.cons_append, List.nil_append, List.eraseIdx_cons_zero, List.eraseIdx_cons_succ, List.set_cons_zero, List.set_cons_succ] at hH
                subst hH
                refine ops_ro' rfl (ro_not rfl rfl) rfl ?_
                refine ops_nil ?_
                refine Then_normal ?_
                refine wp_cond' rfl (fun hc75 => ?_) (fun hc75 => ?_)
                · simp only [Bool.and_eq_true, decide_eq_true_eq, Bool.not_eq_true', decide_eq_false_iff_not, bne_iff_ne, ne_eq] at hc75
                  refine wp_seq' ?_
                  refine wp_region' ?_
                  refine ops_ro' rfl (ro_assign rfl) rfl ?_
                  refine ops_ro' rfl (ro_assign rfl) rfl ?_
                  refine ops_nil ?_
                  refine Then_normal ?_
                  refine wp_ret' ?_
                  refine Then_ret ?_
                  refine InBlock_ret ?_
                  refine Then_ret ?_
                  refine' doneS_ret (res2 rfl rfl rfl) ?_ ?_
                  rotate_left 1
                  have HE : fineE c = 12 := by unfold fineE; rw [if_neg (by omega)]; rw [if_neg (by omega)]; rw [if_neg (by omega)]; rw [if_neg (by omega)]; rw [if_pos (by omega)]; rw [if_neg (by simp_all)]
                  have HB : encP id c = [] := by unfold encP; rw [if_neg (by rw [HE]; decide)]
                  rw [HE, HB]
                  exact ⟨_, ⟨none, 0, rfl, rfl⟩, rfl⟩
                  exact (SubH.rown (SubH.cons 3 rfl (SubH.nil _)))
                · simp only [Bool.and_eq_false_iff, decide_eq_false_iff_not, Bool.not_eq_false', decide_eq_true_eq] at hc75
                  refine wp_skip' ?_
                  refine Then_normal ?_
                  refine wp_region' ?_
                  refine ops_ro' rfl (ro_move rfl) rfl ?_
                  refine ops_ro' rfl (ro_fieldAddr fa66_5 rfl) rfl ?_
                  refine ops_ro' rfl (ro_loadA ag54 rfl (RdN.of_pick 2 rfl (rdn_sub 7)) rfl) rfl ?_
                  refine ops_eff' rfl (eff_callM (Pre := []) Try.call71 rfl rfl (Split.nil _) (q14put _ _ l0 (by first | exact (Vw.pick 0 rfl hk.d) | exact (Vw.pick 1 rfl hk.d) | exact (Vw.pick 2 rfl hk.d) | exact (Vw.pick 3 rfl hk.d) | exact (Vw.pick 4 rfl hk.d) | exact (Vw.pick 5 rfl hk.d) | exact (Vw.pick 0 rfl hk.n) | exact (Vw.pick 1 rfl hk.n) | exact (Vw.pick 2 rfl hk.n) | exact (Vw.pick 3 rfl hk.n) | exact (Vw.pick 4 rfl hk.n) | exact (Vw.pick 5 rfl hk.n) | exact Vw.pick 0 rfl Vw.row | exact Vw.pick 1 rfl Vw.row | exact Vw.pick 2 rfl Vw.row | exact Vw.pick 3 rfl Vw.row | exact Vw.pick 4 rfl Vw.row | exact Vw.pick 5 rfl Vw.row | exact Vw.nil _ | exact Vw.empty _ _) (by omega) c.at' hk.at')) rfl ?_
                  rintro _ H' ⟨_, ⟨p79, c79, rfl, rfl⟩, hH⟩
                  simp only [List.cons_append, List.nil_append, List.eraseIdx_cons_zero, List.eraseIdx_cons_succ, List.set_cons_zero, List.set_cons_succ] at hH
                  subst hH
                  obtain ⟨z79, hz79⟩ : ∃ z, z = l0 ++ c.at'.enc := ⟨_, rfl⟩
                  rw [← hz79]
                  refine ops_ro' rfl (ro_assign rfl) rfl ?_
                  refine ops_nil ?_
                  refine InBlock_normal ?_
                  refine Then_normal ?_
                  refine over_cut (kept ⟨p79, c79, z79, ⟨by rw [hz79, hl0]; unfold repB repBody; rw [if_neg (by omega), if_neg (by omega), if_neg (by omega), if_neg (by omega)], by unfold fineE; rw [if_neg (by omega)]; rw [if_neg (by omega)]; rw [if_neg (by omega)]; rw [if_neg (by omega)]; rw [if_pos (by omega)]; rw [if_pos (by simp_all)]⟩, rfl, rfl⟩ ?_ ?_ ?_)
                  · exact (by repeat (first | exact Has.nil _ | refine Has.cons rfl ?_))
                  · exact (by repeat (first | exact Has.nil _ | refine Has.cons rfl ?_))
                  · exact (SubH.cons 3 rfl (SubH.cons 0 rfl (SubH.cons 2 rfl (SubH.nil _))))
      · rintro Δ LL ⟨p2, c2, l2, ⟨e2, HE⟩, rfl, rfl⟩
        simp only [List.cons_append, List.nil_append]
        refine wp_seq' ?_
        refine wp_region' ?_
        refine ops_ro' rfl (ro_move rfl) rfl ?_
        refine ops_ro' rfl (ro_assign rfl) rfl ?_
        refine ops_ro' rfl (ro_assign rfl) rfl ?_
        refine ops_nil ?_
        refine Then_normal ?_
        refine wp_ret' ?_
        refine' doneS_ret (res2 rfl rfl rfl) ?_ ?_
        rotate_left 1
        have HB : encP id c = l2 := by unfold encP; rw [if_pos HE, e2]
        rw [HE, HB]
        exact ⟨_, ⟨p2, c2, rfl, rfl⟩, rfl⟩
        exact (SubH.cons 1 rfl (SubH.cons 1 rfl (SubH.nil _)))

end Go.Proofs.Ytigaolglnnjnmaa
