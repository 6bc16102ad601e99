/-
  Package auth: payloads.
-/
import Derived.Test.YtigaolglnnjnmaaAuthD
namespace Go.Proofs.Ytigaolglnnjnmaa
open Go.Sx
set_option linter.unusedVariables false
set_option linter.unusedSimpArgs false
set_option maxRecDepth 100000
set_option maxHeartbeats 4000000

/-- what a payload does, and what is answered -/
def gDo (g : Gs) (us : List Us) : List UInt8 → Gs × Option (List UInt8)
  | [] => (g, none)
  | x :: rest => if g.dead = true then (g, none) else if x.toNat = 1 then ({ g with dead := true }, none) else if x.toNat = 2 ∨ x.toNat = 3 ∨ x.toNat = 4 then (g, none) else if x.toNat = 5 then gAsk g (R.new rest) else if x.toNat = 50 then gLogin g us (R.new rest) else gEnd g 2
theorem gDo_cons (g : Gs) (us : List Us) (x : UInt8) (rest : List UInt8) : gDo g us (x :: rest) = if g.dead = true then (g, none) else if x.toNat = 1 then ({ g with dead := true }, none) else if x.toNat = 2 ∨ x.toNat = 3 ∨ x.toNat = 4 then (g, none) else if x.toNat = 5 then gAsk g (R.new rest) else if x.toNat = 50 then gLogin g us (R.new rest) else gEnd g 2 := rfl
theorem gDo_dead {g : Gs} {us : List Us} {b : List UInt8} (h : g.dead = true) : gDo g us b = (g, none) := by
  cases b with
  | nil => rfl
  | cons x r => rw [gDo_cons, if_pos h]
theorem gDo_nil {g : Gs} {us : List Us} {b : List UInt8} (h : b.length = 0) : gDo g us b = (g, none) := by rw [List.eq_nil_of_length_eq_zero h]; rfl
theorem auDo_spec (V : HProp) (bg : Nat) (p : Option Addr) (c : Nat) (g : Gs) (ht : g.tries ≤ 100000) (us : List Us) (hU : Vw V (.slice p us.length c) us.length (flat Us.cs us)) (hul : us.length ≤ 140737488355328) (pb : Option Addr) (b : List UInt8) (cb : Nat) (hB : Vw V (.slice pb b.length cb) b.length (cel b)) (hcb : b.length ≤ cb) (hbl : b.length ≤ 140737488355328) :
    Tri Try.prog 24 [.pointer (some ⟨bg, 0, none⟩), .slice pb b.length cb] [gt bg p us.length c g, V] (fun v H' => H' = [ansP v (gDo g us b).2, gt bg p us.length c (gDo g us b).1, V]) := by
  refine tri_of_wpS Try.func24 rfl Try.ntmps24 (by simp) ?_
  refine wp_seq' ?_
  refine wp_region' ?_
  refine ops_ro' rfl (ro_assign rfl) rfl ?_
  refine ops_nil ?_
  refine Then_normal ?_
  refine wp_seq' ?_
  refine wp_seq' ?_
  refine wp_region' ?_
  refine ops_ro' rfl (ro_move rfl) rfl ?_
  refine ops_ro' rfl (ro_nilCheck rfl) rfl ?_
  refine ops_ro' rfl (ro_fieldAddr fa99_5 rfl) rfl ?_
  refine ops_ro' rfl (ro_load sc4 rfl (Rd.pick 0 rfl (Rd.own rfl))) rfl ?_
  refine ops_split rfl rfl rfl (fun hg10 => ?_) (fun hg10 => ?_)
  · skip
    refine ops_skip' rfl rfl ?_
    refine ops_skip' rfl rfl ?_
    refine ops_skip' rfl rfl ?_
    refine ops_ro' rfl (ro_pick rfl rfl) rfl ?_
    refine ops_nil ?_
    refine Then_normal ?_
    refine wp_condT rfl ?_
    refine wp_seq' ?_
    refine wp_region' ?_
    refine ops_ro' rfl (ro_assign rfl) rfl ?_
    refine ops_nil ?_
    refine Then_normal ?_
    refine wp_ret' ?_
    refine Then_ret ?_
    refine doneS_pre (ansP_none _) ?_
    refine' doneS_ret (res1 rfl rfl) ?_ ?_
    rotate_left 1
    rw [gDo_dead hg10]
    exact SubH.refl _
  · skip
    refine ops_ro' rfl (ro_move rfl) rfl ?_
    refine ops_ro' rfl (ro_sliceLen Try.underlying32 rfl) rfl ?_
    refine ops_ro' rfl (ro_eql rfl rfl rfl) rfl ?_
    refine ops_ro' rfl (ro_pick rfl rfl) rfl ?_
    refine ops_nil ?_
    refine Then_normal ?_
    refine wp_cond' rfl (fun hc14 => ?_) (fun hc14 => ?_)
    · replace hc14 := of_decide_eq_true hc14
      refine wp_seq' ?_
      refine wp_region' ?_
      refine ops_ro' rfl (ro_assign rfl) rfl ?_
      refine ops_nil ?_
      refine Then_normal ?_
      refine wp_ret' ?_
      refine Then_ret ?_
      refine doneS_pre (ansP_none _) ?_
      refine' doneS_ret (res1 rfl rfl) ?_ ?_
      rotate_left 1
      rw [gDo_nil (by omega)]
      exact SubH.refl _
    · replace hc14 := of_decide_eq_false hc14
      refine wp_skip' ?_
      refine Then_normal ?_
      refine wp_seq' ?_
      obtain ⟨x, rest, rfl⟩ : ∃ x rest, b = x :: rest := List.exists_cons_of_length_pos (by omega)
      have hxl := UInt8.toNat_lt x
      refine wp_know (fun w F s => vw_ptr (Vw.pick (H := [_, V]) 1 rfl hB) s (by simp)) ?_
      rintro ⟨bb, ob, rfl⟩
      refine wp_region' ?_
      refine ops_ro' rfl (ro_move rfl) rfl ?_
      refine ops_eff' rfl (eff_sliceB 1 rfl sl32 rfl (hB) rfl rfl (by first | omega | (simp; done) | (simp; omega)) (by omega) hcb) rfl ?_
      rintro _ _ ⟨p16, rfl, hv16, hn16, rfl⟩
      have hz0 : List.take ((x :: rest).length - Int.toNat 1) (List.drop (Int.toNat 1) (x :: rest)) = rest := by simp
      rw [hz0] at hv16 ⊢
      refine ops_eff' rfl (eff_call Try.call55 rfl rfl (by repeat (first | exact Split.nil _ | apply Split.cons 0 rfl | apply Split.cons 1 rfl | apply Split.cons 2 rfl | apply Split.cons 3 rfl | apply Split.cons 4 rfl | apply Split.cons 5 rfl | apply Split.cons 6 rfl | apply Split.cons 7 rfl | apply Split.cons 8 rfl | apply Split.cons 9 rfl | apply Split.cons 10 rfl | apply Split.cons 11 rfl)) (newReader_spec V _ _ rest hv16 (by simp at hbl; omega))) rfl ?_
      rintro _ H' ⟨_, ⟨pr, q, cr, rfl, rfl⟩, hH⟩
      simp only [List.cons_append, List.nil_append, List.eraseIdx_cons_zero, List.eraseIdx_cons_succ, List.set_cons_zero, List.set_cons_succ] at hH
      subst hH
      have hg0 := R.good_new rest (by simp at hbl; omega)
      refine ops_ro' rfl (ro_assign rfl) rfl ?_
      refine ops_nil ?_
      refine Then_normal ?_
      refine wp_seq' ?_
      refine wp_seq' ?_
      refine wp_region' ?_
      refine ops_ro' rfl (ro_move rfl) rfl ?_
      refine ops_ro' rfl (ro_indexSlice sl32 rfl rfl rfl (by dsimp only; omega)) rfl ?_
      refine ops_ro' rfl (ro_load sc5 rfl (Rd.pick 2 rfl ((Rd.of_n (vw_rdn hB) (j := 0) (by first | rfl | omega) (show (cel (x :: rest))[0]? = some (byteV x) from rfl))))) rfl ?_
      refine ops_nil ?_
      refine Then_normal ?_
      refine wp_block' ?_
      refine wp_seq' ?_
      refine wp_region' ?_
      refine ops_ro' rfl (ro_eql rfl rfl rfl) rfl ?_
      refine ops_ro' rfl (ro_assign rfl) rfl ?_
      refine ops_nil ?_
      refine Then_normal ?_
      refine wp_cond' rfl (fun hc21 => ?_) (fun hc21 => ?_)
      · replace hc21 := of_decide_eq_true hc21
        refine wp_seq' ?_
        refine wp_region' ?_
        refine ops_ro' rfl (ro_move rfl) rfl ?_
        refine ops_ro' rfl (ro_nilCheck rfl) rfl ?_
        refine ops_ro' rfl (ro_fieldAddr fa99_5 rfl) rfl ?_
        refine ops_eff0 rfl (eff_store 3 sc4 rfl rfl rfl rfl (Nat.le_of_ble_eq_true rfl) (warm_zero _)) rfl ?_
        rintro _ _ rfl
        refine ops_nil ?_
        refine Then_normal ?_
        refine wp_seq' ?_
        refine wp_region' ?_
        refine ops_ro' rfl (ro_assign rfl) rfl ?_
        refine ops_nil ?_
        refine Then_normal ?_
        refine wp_ret' ?_
        refine InBlock_ret ?_
        refine Then_ret ?_
        refine doneS_pre (ansP_none _) ?_
        refine' doneS_ret (res1 rfl rfl) ?_ ?_
        rotate_left 1
        have HX : gDo g us (x :: rest) = ({ g with dead := true }, none) := by rw [gDo_cons]; rw [if_neg (by simp_all)]; rw [if_pos (by omega)]
        rw [HX]
        exact (SubH.cons 0 rfl (SubH.cons 3 rfl (SubH.cons 2 rfl (SubH.nil _))))
      · replace hc21 := of_decide_eq_false hc21
        refine wp_seq' ?_
        refine wp_seq' ?_
        refine wp_region' ?_
        refine ops_ro' rfl (ro_eql rfl rfl rfl) rfl ?_
        refine ops_ro' rfl (ro_assign rfl) rfl ?_
        refine ops_nil ?_
        refine Then_normal ?_
        refine wp_cond' rfl (fun hc26 => ?_) (fun hc26 => ?_)
        · replace hc26 := of_decide_eq_true hc26
          refine wp_skip' ?_
          refine Then_normal ?_
          refine wp_cond' rfl (fun hc26 => ?_) (fun hc26 => ?_)
          · replace hc26 := of_decide_eq_true hc26
            refine wp_seq' ?_
            refine wp_region' ?_
            refine ops_ro' rfl (ro_assign rfl) rfl ?_
            refine ops_nil ?_
            refine Then_normal ?_
            refine wp_ret' ?_
            refine InBlock_ret ?_
            refine Then_ret ?_
            refine doneS_pre (ansP_none _) ?_
            refine' doneS_ret (res1 rfl rfl) ?_ ?_
            rotate_left 1
            have HX : gDo g us (x :: rest) = (g, none) := by rw [gDo_cons]; rw [if_neg (by simp_all)]; rw [if_neg (by omega), if_pos (by omega)]
            rw [HX]
            exact (SubH.cons 0 rfl (SubH.cons 3 rfl (SubH.cons 2 rfl (SubH.nil _))))
          · replace hc26 := of_decide_eq_false hc26
            exfalso; omega
        · replace hc26 := of_decide_eq_false hc26
          refine wp_seq' ?_
          refine wp_region' ?_
          refine ops_ro' rfl (ro_eql rfl rfl rfl) rfl ?_
          refine ops_ro' rfl (ro_assign rfl) rfl ?_
          refine ops_nil ?_
          refine Then_normal ?_
          refine wp_cond' rfl (fun hc26 => ?_) (fun hc26 => ?_)
          · replace hc26 := of_decide_eq_true hc26
            refine wp_skip' ?_
            refine Then_normal ?_
            refine wp_cond' rfl (fun hc26 => ?_) (fun hc26 => ?_)
            · replace hc26 := of_decide_eq_true hc26
              refine wp_seq' ?_
              refine wp_region' ?_
              refine ops_ro' rfl (ro_assign rfl) rfl ?_
              refine ops_nil ?_
              refine Then_normal ?_
              refine wp_ret' ?_
              refine InBlock_ret ?_
              refine Then_ret ?_
              refine doneS_pre (ansP_none _) ?_
              refine' doneS_ret (res1 rfl rfl) ?_ ?_
              rotate_left 1
              have HX : gDo g us (x :: rest) = (g, none) := by rw [gDo_cons]; rw [if_neg (by simp_all)]; rw [if_neg (by omega), if_pos (by omega)]
              rw [HX]
              exact (SubH.cons 0 rfl (SubH.cons 3 rfl (SubH.cons 2 rfl (SubH.nil _))))
            · replace hc26 := of_decide_eq_false hc26
              exfalso; omega
          · replace hc26 := of_decide_eq_false hc26
            refine wp_region' ?_
            refine ops_ro' rfl (ro_eql rfl rfl rfl) rfl ?_
            refine ops_ro' rfl (ro_assign rfl) rfl ?_
            refine ops_nil ?_
            refine Then_normal ?_
            refine wp_cond' rfl (fun hc26 => ?_) (fun hc26 => ?_)
            · replace hc26 := of_decide_eq_true hc26
              refine wp_seq' ?_
              refine wp_region' ?_
              refine ops_ro' rfl (ro_assign rfl) rfl ?_
              refine ops_nil ?_
              refine Then_normal ?_
              refine wp_ret' ?_
              refine InBlock_ret ?_
              refine Then_ret ?_
              refine doneS_pre (ansP_none _) ?_
              refine' doneS_ret (res1 rfl rfl) ?_ ?_
              rotate_left 1
              have HX : gDo g us (x :: rest) = (g, none) := by rw [gDo_cons]; rw [if_neg (by simp_all)]; rw [if_neg (by omega), if_pos (by omega)]
              rw [HX]
              exact (SubH.cons 0 rfl (SubH.cons 3 rfl (SubH.cons 2 rfl (SubH.nil _))))
            · replace hc26 := of_decide_eq_false hc26
              refine wp_seq' ?_
              refine wp_region' ?_
              refine ops_ro' rfl (ro_eql rfl rfl rfl) rfl ?_
              refine ops_ro' rfl (ro_assign rfl) rfl ?_
              refine ops_nil ?_
              refine Then_normal ?_
              refine wp_cond' rfl (fun hc30 => ?_) (fun hc30 => ?_)
              · replace hc30 := of_decide_eq_true hc30
                refine wp_seq' ?_
                refine wp_region' ?_
                refine ops_ro' rfl (ro_move rfl) rfl ?_
                refine ops_ro' rfl (ro_move rfl) rfl ?_
                refine ops_eff' rfl (eff_call Try.call56 rfl rfl (by repeat (first | exact Split.nil _ | apply Split.cons 0 rfl | apply Split.cons 1 rfl | apply Split.cons 2 rfl | apply Split.cons 3 rfl | apply Split.cons 4 rfl | apply Split.cons 5 rfl | apply Split.cons 6 rfl | apply Split.cons 7 rfl | apply Split.cons 8 rfl | apply Split.cons 9 rfl | apply Split.cons 10 rfl | apply Split.cons 11 rfl)) (auAsk_spec bg pr p q us.length c cr g (R.new rest) hg0)) rfl ?_
                rintro _ H' ⟨_, rfl, hH⟩
                simp only [List.cons_append, List.nil_append, List.eraseIdx_cons_zero, List.eraseIdx_cons_succ, List.set_cons_zero, List.set_cons_succ] at hH
                subst hH
                refine ops_ro' rfl (ro_assign rfl) rfl ?_
                refine ops_nil ?_
                refine Then_normal ?_
                refine wp_ret' ?_
                refine InBlock_ret ?_
                refine Then_ret ?_
                refine' doneS_ret (res1 rfl rfl) ?_ ?_
                rotate_left 1
                have HX : gDo g us (x :: rest) = gAsk g (R.new rest) := by rw [gDo_cons]; rw [if_neg (by simp_all)]; rw [if_neg (by omega), if_neg (by omega), if_pos (by omega)]
                rw [HX]
                exact SubH.refl _
              · replace hc30 := of_decide_eq_false hc30
                refine wp_seq' ?_
                refine wp_region' ?_
                refine ops_ro' rfl (ro_eql rfl rfl rfl) rfl ?_
                refine ops_ro' rfl (ro_assign rfl) rfl ?_
                refine ops_nil ?_
                refine Then_normal ?_
                refine wp_cond' rfl (fun hc35 => ?_) (fun hc35 => ?_)
                · replace hc35 := of_decide_eq_true hc35
                  refine wp_seq' ?_
                  refine wp_region' ?_
                  refine ops_ro' rfl (ro_move rfl) rfl ?_
                  refine ops_ro' rfl (ro_move rfl) rfl ?_
                  refine ops_eff' rfl (eff_call Try.call57 rfl rfl (by repeat (first | exact Split.nil _ | apply Split.cons 0 rfl | apply Split.cons 1 rfl | apply Split.cons 2 rfl | apply Split.cons 3 rfl | apply Split.cons 4 rfl | apply Split.cons 5 rfl | apply Split.cons 6 rfl | apply Split.cons 7 rfl | apply Split.cons 8 rfl | apply Split.cons 9 rfl | apply Split.cons 10 rfl | apply Split.cons 11 rfl)) (auLogin_spec bg pr p q c cr g ht us V hU hul (R.new rest) hg0)) rfl ?_
                  rintro _ H' ⟨_, rfl, hH⟩
                  simp only [List.cons_append, List.nil_append, List.eraseIdx_cons_zero, List.eraseIdx_cons_succ, List.set_cons_zero, List.set_cons_succ] at hH
                  subst hH
                  refine ops_ro' rfl (ro_assign rfl) rfl ?_
                  refine ops_nil ?_
                  refine Then_normal ?_
                  refine wp_ret' ?_
                  refine InBlock_ret ?_
                  refine Then_ret ?_
                  refine' doneS_ret (res1 rfl rfl) ?_ ?_
                  rotate_left 1
                  have HX : gDo g us (x :: rest) = gLogin g us (R.new rest) := by rw [gDo_cons]; rw [if_neg (by simp_all)]; rw [if_neg (by omega), if_neg (by omega), if_neg (by omega), if_pos (by omega)]
                  rw [HX]
                  exact SubH.refl _
                · replace hc35 := of_decide_eq_false hc35
                  refine wp_skip' ?_
                  refine InBlock_normal ?_
                  refine Then_normal ?_
                  refine wp_seq' ?_
                  refine wp_region' ?_
                  refine ops_ro' rfl (ro_move rfl) rfl ?_
                  refine ops_eff' rfl (eff_call Try.call58 rfl rfl (by repeat (first | exact Split.nil _ | apply Split.cons 0 rfl | apply Split.cons 1 rfl | apply Split.cons 2 rfl | apply Split.cons 3 rfl | apply Split.cons 4 rfl | apply Split.cons 5 rfl | apply Split.cons 6 rfl | apply Split.cons 7 rfl | apply Split.cons 8 rfl | apply Split.cons 9 rfl | apply Split.cons 10 rfl | apply Split.cons 11 rfl)) (auEnd_spec bg p us.length c g 2 (by decide))) rfl ?_
                  rintro _ H' ⟨_, rfl, hH⟩
                  simp only [List.cons_append, List.nil_append, List.eraseIdx_cons_zero, List.eraseIdx_cons_succ, List.set_cons_zero, List.set_cons_succ] at hH
                  subst hH
                  refine ops_ro' rfl (ro_assign rfl) rfl ?_
                  refine ops_nil ?_
                  refine Then_normal ?_
                  refine wp_ret' ?_
                  refine' doneS_ret (res1 rfl rfl) ?_ ?_
                  rotate_left 1
                  have HX : gDo g us (x :: rest) = gEnd g 2 := by rw [gDo_cons]; rw [if_neg (by simp_all)]; rw [if_neg (by omega), if_neg (by omega), if_neg (by omega), if_neg (by omega)]
                  rw [HX]
                  exact (SubH.cons 0 rfl (SubH.cons 0 rfl (SubH.cons 2 rfl (SubH.nil _))))

end Go.Proofs.Ytigaolglnnjnmaa
