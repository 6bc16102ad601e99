/-
  A tree grows: holder, made, New.
-/
import Derived.Test.YtbbmhppkhcodfaaTrR
import Derived.Test.YtbbmhppkhcodfaaPath
namespace Go.Proofs.Ytbbmhppkhcodfaa
open Go.Sx
set_option linter.unusedVariables false
set_option linter.unusedSimpArgs false
set_option maxRecDepth 100000
set_option maxHeartbeats 4000000

def lastN (p : List (List UInt8)) : List UInt8 := (p[p.length - 1]?).getD []
theorem lastN_at {p : List (List UInt8)} (h : p ≠ []) : p[p.length - 1]? = some (lastN p) := by
  have h1 := List.length_pos_iff.2 h
  unfold lastN
  rw [List.getElem?_eq_getElem (show p.length - 1 < p.length by omega)]; rfl
/-- what should hold a path, and where -/
def holdO (ns : List Nd) (r : Nd) (p : List (List UInt8)) : (Option Nd × Nat) × Int :=
  if ptOk (lastN p) = true then
    match fnd ns r (p.take (p.length - 1)) with
    | none => ((none, 0), 22)
    | some x => if x.dir = true then (if (kid ns x.id (lastN p)).isSome = true then ((none, 0), 21) else ((some x, kpl ns x (lastN p)), 0)) else ((none, 0), 23)
  else ((none, 0), 20)
theorem holdO_name {ns : List Nd} {r : Nd} {p : List (List UInt8)} (h : ptOk (lastN p) = false) : holdO ns r p = ((none, 0), 20) := by unfold holdO; rw [if_neg (by rw [h]; decide)]
theorem holdO_none {ns : List Nd} {r : Nd} {p : List (List UInt8)} (h : ptOk (lastN p) = true) (h1 : fnd ns r (p.take (p.length - 1)) = none) : holdO ns r p = ((none, 0), 22) := by unfold holdO; rw [if_pos h, h1]
theorem holdO_file {ns : List Nd} {r x : Nd} {p : List (List UInt8)} (h : ptOk (lastN p) = true) (h1 : fnd ns r (p.take (p.length - 1)) = some x) (h2 : x.dir = false) : holdO ns r p = ((none, 0), 23) := by unfold holdO; rw [if_pos h, h1]; simp only; rw [if_neg (by rw [h2]; decide)]
theorem holdO_had {ns : List Nd} {r x : Nd} {p : List (List UInt8)} (hK : Kd ns) (hx : x ∈ ns) (h : ptOk (lastN p) = true) (h1 : fnd ns r (p.take (p.length - 1)) = some x) (h2 : x.dir = true) (h3 : (x.kids.map (nmB ns))[kpl ns x (lastN p)]? = some (lastN p)) : holdO ns r p = ((none, 0), 21) := by
  unfold holdO; rw [if_pos h, h1]; simp only
  rw [if_pos h2]
  cases hk : kid ns x.id (lastN p) with
  | none => exact absurd h3 (kid_miss hK hx hk)
  | some y => rfl
theorem holdO_ok {ns : List Nd} {r x : Nd} {p : List (List UInt8)} (hK : Kd ns) (hx : x ∈ ns) (h : ptOk (lastN p) = true) (h1 : fnd ns r (p.take (p.length - 1)) = some x) (h2 : x.dir = true) (h3 : ¬ (x.kids.map (nmB ns))[kpl ns x (lastN p)]? = some (lastN p)) : holdO ns r p = ((some x, kpl ns x (lastN p)), 0) := by
  unfold holdO; rw [if_pos h, h1]; simp only
  rw [if_pos h2]
  cases hk : kid ns x.id (lastN p) with
  | none => rfl
  | some y => exact absurd (kid_hit hK hx hk).1 h3
theorem holder_spec {V : HProp} {t : Tr} (hT : Tv V t) {r : Nd} (hW : Wf t r) (q : Option Addr) (cq : Nat) (p : List (List UInt8)) (hV : Vw V (.slice q p.length cq) p.length (txs p)) (hcq : p.length ≤ cq) (hl : p.length ≤ 100000) (hp : p ≠ []) (hln : (lastN p).length ≤ 9223372036854775807) : Tri Try.prog 36 [t.v, .slice q p.length cq] [V] (fun v H' => ∃ K, (v = .tuple #[ptrO (holdO t.ns r p).1.1, .int .i64 ((holdO t.ns r p).1.2 : Int), .int .i64 (holdO t.ns r p).2] ∧ K = []) ∧ H' = K ++ [V]) := by
  have hp1 := List.length_pos_iff.2 hp
  have hlast := lastN_at hp
  refine tri_know (fun w F s => vw_ptr (Vw.pick (H := [V]) 0 rfl hV) s (by omega)) ?_
  rintro ⟨b0, o0, rfl⟩
  cases hb : fnd t.ns r (p.take (p.length - 1)) with
  | none =>
    refine tri_of_wpS Try.func36 rfl Try.ntmps36 (by simp) ?_
    refine wp_seq' ?_
    refine wp_region' ?_
    refine ops_ro' rfl (ro_assign rfl) rfl ?_
    refine ops_ro' rfl (ro_assign rfl) rfl ?_
    refine ops_ro' rfl (ro_assign rfl) rfl ?_
    refine ops_nil ?_
    refine Then_normal ?_
    refine wp_seq' ?_
    refine wp_region' ?_
    refine ops_ro' rfl (ro_move rfl) rfl ?_
    refine ops_ro' rfl (ro_move rfl) rfl ?_
    refine ops_ro' rfl (ro_sliceLen Try.underlying29 rfl) rfl ?_
    refine ops_ro' rfl (ro_sub rfl rfl (wrap_dec (by omega) (by omega))) rfl ?_
    refine ops_ro' rfl (ro_indexSlice sl29 rfl rfl rfl (by omega)) rfl ?_
    refine ops_ro' rfl (ro_load sc9 rfl (Rd.pick 0 rfl (Rd.elem (j := 0) (vw_rdn hV) Tx.len hlast rfl))) rfl ?_
    refine ops_ro' rfl (ro_assign rfl) rfl ?_
    refine ops_nil ?_
    refine Then_normal ?_
    refine wp_seq' ?_
    refine wp_seq' ?_
    refine wp_region' ?_
    refine ops_ro' rfl (ro_move rfl) rfl ?_
    refine ops_eff' rfl (eff_call Try.call72 rfl rfl (by repeat (first | exact Split.nil _ | apply Split.cons 0 rfl | apply Split.cons 1 rfl | apply Split.cons 2 rfl | apply Split.cons 3 rfl | apply Split.cons 4 rfl | apply Split.cons 5 rfl | apply Split.cons 6 rfl | apply Split.cons 7 rfl | apply Split.cons 8 rfl | apply Split.cons 9 rfl | apply Split.cons 10 rfl | apply Split.cons 11 rfl)) (ptRight_spec (lastN p) hln)) rfl ?_
    rintro _ H' ⟨_, ⟨rfl, rfl⟩, hH⟩
    simp only [List.cons_append, List.nil_append, List.eraseIdx_cons_zero, List.eraseIdx_cons_succ, List.set_cons_zero, List.set_cons_succ] at hH
    subst hH
    refine ops_ro' rfl (ro_not rfl rfl) rfl ?_
    refine ops_nil ?_
    refine Then_normal ?_
    refine wp_cond' rfl (fun hc19 => ?_) (fun hc19 => ?_)
    · simp only [Bool.and_eq_true, decide_eq_true_eq, Bool.not_eq_true', decide_eq_false_iff_not, bne_iff_ne, ne_eq] at hc19
      refine wp_seq' ?_
      refine wp_region' ?_
      refine ops_ro' rfl (ro_assign rfl) rfl ?_
      refine ops_ro' rfl (ro_assign rfl) rfl ?_
      refine ops_ro' rfl (ro_assign rfl) rfl ?_
      refine ops_nil ?_
      refine Then_normal ?_
      refine wp_ret' ?_
      refine Then_ret ?_
      refine' doneS_ret (res3 rfl rfl rfl rfl) ?_ ?_
      rotate_left 1
      exact ⟨_, ⟨by rw [holdO_name (by simpa using hc19)] <;> rfl, rfl⟩, rfl⟩
      exact SubH.refl _
    · simp only [Bool.and_eq_false_iff, decide_eq_false_iff_not, Bool.not_eq_false', decide_eq_true_eq] at hc19
      have hok : ptOk (lastN p) = true := by simpa using hc19
      refine wp_skip' ?_
      refine Then_normal ?_
      refine wp_seq' ?_
      refine wp_region' ?_
      refine ops_ro' rfl (ro_move rfl) rfl ?_
      refine ops_ro' rfl (ro_move rfl) rfl ?_
      refine ops_ro' rfl (ro_move rfl) rfl ?_
      refine ops_ro' rfl (ro_sliceLen Try.underlying29 rfl) rfl ?_
      refine ops_ro' rfl (ro_sub rfl rfl (wrap_dec (by omega) (by omega))) rfl ?_
      refine ops_eff' rfl (eff_sliceF 0 rfl Tx.len sl29 rfl (hV) rfl (bnd_of rfl rfl) (by omega) (by omega) hcq) rfl ?_
      rintro _ _ ⟨p25, rfl, hv25, hn25, rfl⟩
      rw [show List.take (p.length - 1 - 0) (List.drop 0 p) = p.take (p.length - 1) from by simp] at hv25 ⊢
      refine ops_eff' rfl (eff_call Try.call44 rfl rfl (by repeat (first | exact Split.nil _ | apply Split.cons 0 rfl | apply Split.cons 1 rfl | apply Split.cons 2 rfl | apply Split.cons 3 rfl | apply Split.cons 4 rfl | apply Split.cons 5 rfl | apply Split.cons 6 rfl | apply Split.cons 7 rfl | apply Split.cons 8 rfl | apply Split.cons 9 rfl | apply Split.cons 10 rfl | apply Split.cons 11 rfl)) (find_spec hT hW p25 _ (p.take (p.length - 1)) hv25 (by rw [List.length_take]; omega))) rfl ?_
      rintro _ H' ⟨_, ⟨_, ⟨rfl, rfl⟩, rfl⟩, hH⟩
      simp only [List.cons_append, List.nil_append, List.eraseIdx_cons_zero, List.eraseIdx_cons_succ, List.set_cons_zero, List.set_cons_succ] at hH
      subst hH
      rw [hb]
      dsimp only [ptrO, Option.map]
      refine ops_ro' rfl (ro_assign rfl) rfl ?_
      refine ops_nil ?_
      refine Then_normal ?_
      refine wp_seq' ?_
      refine wp_block' ?_
      refine wp_seq' ?_
      refine wp_region' ?_
      refine ops_ro' rfl (ro_move rfl) rfl ?_
      refine ops_ro' rfl (ro_ptrEqlNil Try.underlying76 rfl rfl rfl) rfl ?_
      refine ops_ro' rfl (ro_assign rfl) rfl ?_
      refine ops_nil ?_
      refine Then_normal ?_
      refine wp_condT rfl ?_
      refine wp_seq' ?_
      refine wp_region' ?_
      refine ops_ro' rfl (ro_assign rfl) rfl ?_
      refine ops_ro' rfl (ro_assign rfl) rfl ?_
      refine ops_ro' rfl (ro_assign rfl) rfl ?_
      refine ops_nil ?_
      refine Then_normal ?_
      refine wp_ret' ?_
      refine InBlock_ret ?_
      refine Then_ret ?_
      refine' doneS_ret (res3 rfl rfl rfl rfl) ?_ ?_
      rotate_left 1
      exact ⟨_, ⟨by rw [holdO_none hok hb] <;> rfl, rfl⟩, rfl⟩
      exact SubH.refl _
  | some x =>
    have hx := fnd_mem hW.root hb
    refine tri_of_wpS Try.func36 rfl Try.ntmps36 (by simp) ?_
    refine wp_seq' ?_
    refine wp_region' ?_
    refine ops_ro' rfl (ro_assign rfl) rfl ?_
    refine ops_ro' rfl (ro_assign rfl) rfl ?_
    refine ops_ro' rfl (ro_assign rfl) rfl ?_
    refine ops_nil ?_
    refine Then_normal ?_
    refine wp_seq' ?_
    refine wp_region' ?_
    refine ops_ro' rfl (ro_move rfl) rfl ?_
    refine ops_ro' rfl (ro_move rfl) rfl ?_
    refine ops_ro' rfl (ro_sliceLen Try.underlying29 rfl) rfl ?_
    refine ops_ro' rfl (ro_sub rfl rfl (wrap_dec (by omega) (by omega))) rfl ?_
    refine ops_ro' rfl (ro_indexSlice sl29 rfl rfl rfl (by omega)) rfl ?_
    refine ops_ro' rfl (ro_load sc9 rfl (Rd.pick 0 rfl (Rd.elem (j := 0) (vw_rdn hV) Tx.len hlast rfl))) rfl ?_
    refine ops_ro' rfl (ro_assign rfl) rfl ?_
    refine ops_nil ?_
    refine Then_normal ?_
    refine wp_seq' ?_
    refine wp_seq' ?_
    refine wp_region' ?_
    refine ops_ro' rfl (ro_move rfl) rfl ?_
    refine ops_eff' rfl (eff_call Try.call72 rfl rfl (by repeat (first | exact Split.nil _ | apply Split.cons 0 rfl | apply Split.cons 1 rfl | apply Split.cons 2 rfl | apply Split.cons 3 rfl | apply Split.cons 4 rfl | apply Split.cons 5 rfl | apply Split.cons 6 rfl | apply Split.cons 7 rfl | apply Split.cons 8 rfl | apply Split.cons 9 rfl | apply Split.cons 10 rfl | apply Split.cons 11 rfl)) (ptRight_spec (lastN p) hln)) rfl ?_
    rintro _ H' ⟨_, ⟨rfl, rfl⟩, hH⟩
    simp only [List.cons_append, List.nil_append, List.eraseIdx_cons_zero, List.eraseIdx_cons_succ, List.set_cons_zero, List.set_cons_succ] at hH
    subst hH
    refine ops_ro' rfl (ro_not rfl rfl) rfl ?_
    refine ops_nil ?_
    refine Then_normal ?_
    refine wp_cond' rfl (fun hc19 => ?_) (fun hc19 => ?_)
    · simp only [Bool.and_eq_true, decide_eq_true_eq, Bool.not_eq_true', decide_eq_false_iff_not, bne_iff_ne, ne_eq] at hc19
      refine wp_seq' ?_
      refine wp_region' ?_
      refine ops_ro' rfl (ro_assign rfl) rfl ?_
      refine ops_ro' rfl (ro_assign rfl) rfl ?_
      refine ops_ro' rfl (ro_assign rfl) rfl ?_
      refine ops_nil ?_
      refine Then_normal ?_
      refine wp_ret' ?_
      refine Then_ret ?_
      refine' doneS_ret (res3 rfl rfl rfl rfl) ?_ ?_
      rotate_left 1
      exact ⟨_, ⟨by rw [holdO_name (by simpa using hc19)] <;> rfl, rfl⟩, rfl⟩
      exact SubH.refl _
    · simp only [Bool.and_eq_false_iff, decide_eq_false_iff_not, Bool.not_eq_false', decide_eq_true_eq] at hc19
      have hok : ptOk (lastN p) = true := by simpa using hc19
      refine wp_skip' ?_
      refine Then_normal ?_
      refine wp_seq' ?_
      refine wp_region' ?_
      refine ops_ro' rfl (ro_move rfl) rfl ?_
      refine ops_ro' rfl (ro_move rfl) rfl ?_
      refine ops_ro' rfl (ro_move rfl) rfl ?_
      refine ops_ro' rfl (ro_sliceLen Try.underlying29 rfl) rfl ?_
      refine ops_ro' rfl (ro_sub rfl rfl (wrap_dec (by omega) (by omega))) rfl ?_
      refine ops_eff' rfl (eff_sliceF 0 rfl Tx.len sl29 rfl (hV) rfl (bnd_of rfl rfl) (by omega) (by omega) hcq) rfl ?_
      rintro _ _ ⟨p25, rfl, hv25, hn25, rfl⟩
      rw [show List.take (p.length - 1 - 0) (List.drop 0 p) = p.take (p.length - 1) from by simp] at hv25 ⊢
      refine ops_eff' rfl (eff_call Try.call44 rfl rfl (by repeat (first | exact Split.nil _ | apply Split.cons 0 rfl | apply Split.cons 1 rfl | apply Split.cons 2 rfl | apply Split.cons 3 rfl | apply Split.cons 4 rfl | apply Split.cons 5 rfl | apply Split.cons 6 rfl | apply Split.cons 7 rfl | apply Split.cons 8 rfl | apply Split.cons 9 rfl | apply Split.cons 10 rfl | apply Split.cons 11 rfl)) (find_spec hT hW p25 _ (p.take (p.length - 1)) hv25 (by rw [List.length_take]; omega))) rfl ?_
      rintro _ H' ⟨_, ⟨_, ⟨rfl, rfl⟩, rfl⟩, hH⟩
      simp only [List.cons_append, List.nil_append, List.eraseIdx_cons_zero, List.eraseIdx_cons_succ, List.set_cons_zero, List.set_cons_succ] at hH
      subst hH
      rw [hb]
      dsimp only [ptrO, Option.map]
      refine ops_ro' rfl (ro_assign rfl) rfl ?_
      refine ops_nil ?_
      refine Then_normal ?_
      refine wp_seq' ?_
      refine wp_block' ?_
      refine wp_seq' ?_
      refine wp_region' ?_
      refine ops_ro' rfl (ro_move rfl) rfl ?_
      refine ops_ro' rfl (ro_ptrEqlNil Try.underlying76 rfl rfl rfl) rfl ?_
      refine ops_ro' rfl (ro_assign rfl) rfl ?_
      refine ops_nil ?_
      refine Then_normal ?_
      refine wp_condF rfl ?_
      refine wp_seq' ?_
      refine wp_region' ?_
      refine ops_ro' rfl (ro_move rfl) rfl ?_
      refine ops_ro' rfl (ro_nilCheck rfl) rfl ?_
      refine ops_ro' rfl (ro_fieldAddr fa85_1 rfl) rfl ?_
      refine ops_ro' rfl (ro_load sc4 rfl (Rd.pick 0 rfl ((hT.nd x hx 1 _ rfl)))) rfl ?_
      refine ops_ro' rfl (ro_not rfl rfl) rfl ?_
      refine ops_ro' rfl (ro_assign rfl) rfl ?_
      refine ops_nil ?_
      refine Then_normal ?_
      refine wp_cond' rfl (fun hc30 => ?_) (fun hc30 => ?_)
      · simp only [Bool.and_eq_true, decide_eq_true_eq, Bool.not_eq_true', decide_eq_false_iff_not, bne_iff_ne, ne_eq] at hc30
        refine wp_seq' ?_
        refine wp_region' ?_
        refine ops_ro' rfl (ro_assign rfl) rfl ?_
        refine ops_ro' rfl (ro_assign rfl) rfl ?_
        refine ops_ro' rfl (ro_assign rfl) rfl ?_
        refine ops_nil ?_
        refine Then_normal ?_
        refine wp_ret' ?_
        refine InBlock_ret ?_
        refine Then_ret ?_
        refine' doneS_ret (res3 rfl rfl rfl rfl) ?_ ?_
        rotate_left 1
        exact ⟨_, ⟨by rw [holdO_file hok hb (by simpa using hc30)] <;> rfl, rfl⟩, rfl⟩
        exact SubH.refl _
      · simp only [Bool.and_eq_false_iff, decide_eq_false_iff_not, Bool.not_eq_false', decide_eq_true_eq] at hc30
        have hdir : x.dir = true := by simpa using hc30
        refine wp_skip' ?_
        refine InBlock_normal ?_
        refine Then_normal ?_
        refine wp_seq' ?_
        refine wp_region' ?_
        refine ops_ro' rfl (ro_move rfl) rfl ?_
        refine ops_ro' rfl (ro_move rfl) rfl ?_
        refine ops_eff' rfl (eff_call Try.call73 rfl rfl (by repeat (first | exact Split.nil _ | apply Split.cons 0 rfl | apply Split.cons 1 rfl | apply Split.cons 2 rfl | apply Split.cons 3 rfl | apply Split.cons 4 rfl | apply Split.cons 5 rfl | apply Split.cons 6 rfl | apply Split.cons 7 rfl | apply Split.cons 8 rfl | apply Split.cons 9 rfl | apply Split.cons 10 rfl | apply Split.cons 11 rfl)) (place_spec x.blk x.kp x.kc x.kids (hT.nd x hx 3 _ rfl) (hT.kids x hx) (hW.kd.few x hx) (nmB t.ns) (kids_names hT hW.kd hx) (hW.kd.rise x hx) (lastN p))) rfl ?_
        rintro _ H' ⟨_, ⟨_, ⟨rfl, rfl⟩, rfl⟩, hH⟩
        simp only [List.cons_append, List.nil_append, List.eraseIdx_cons_zero, List.eraseIdx_cons_succ, List.set_cons_zero, List.set_cons_succ] at hH
        subst hH
        refine ops_ro' rfl (ro_move rfl) rfl ?_
        refine ops_ro' rfl (ro_extract rfl rfl) rfl ?_
        refine ops_ro' rfl (ro_extract rfl rfl) rfl ?_
        refine ops_ro' rfl (ro_assign rfl) rfl ?_
        refine ops_ro' rfl (ro_assign rfl) rfl ?_
        refine ops_nil ?_
        refine Then_normal ?_
        refine wp_seq' ?_
        refine wp_seq' ?_
        refine wp_region' ?_
        refine ops_ro' rfl (ro_move rfl) rfl ?_
        refine ops_nil ?_
        refine Then_normal ?_
        refine wp_cond' rfl (fun hc42 => ?_) (fun hc42 => ?_)
        · replace hc42 := of_decide_eq_true hc42
          refine wp_seq' ?_
          refine wp_region' ?_
          refine ops_ro' rfl (ro_assign rfl) rfl ?_
          refine ops_ro' rfl (ro_assign rfl) rfl ?_
          refine ops_ro' rfl (ro_assign rfl) rfl ?_
          refine ops_nil ?_
          refine Then_normal ?_
          refine wp_ret' ?_
          refine Then_ret ?_
          refine' doneS_ret (res3 rfl rfl rfl rfl) ?_ ?_
          rotate_left 1
          exact ⟨_, ⟨by rw [holdO_had hW.kd hx hok hb hdir hc42] <;> rfl, rfl⟩, rfl⟩
          exact SubH.refl _
        · replace hc42 := of_decide_eq_false hc42
          refine wp_skip' ?_
          refine Then_normal ?_
          refine wp_seq' ?_
          refine wp_region' ?_
          refine ops_ro' rfl (ro_move rfl) rfl ?_
          refine ops_ro' rfl (ro_move rfl) rfl ?_
          refine ops_ro' rfl (ro_assign rfl) rfl ?_
          refine ops_ro' rfl (ro_assign rfl) rfl ?_
          refine ops_ro' rfl (ro_assign rfl) rfl ?_
          refine ops_nil ?_
          refine Then_normal ?_
          refine wp_ret' ?_
          refine' doneS_ret (res3 rfl rfl rfl rfl) ?_ ?_
          rotate_left 1
          exact ⟨_, ⟨by rw [holdO_ok hW.kd hx hok hb hdir hc42] <;> rfl, rfl⟩, rfl⟩
          exact SubH.refl _


def mkA (dir : Bool) : At := if dir = true then (⟨15, 0, 0, 0, 16877, 0, 0⟩ : At) else (⟨15, 0, 0, 0, 33188, 0, 0⟩ : At)
theorem ndL_nil (x : Nd) (hk : x.kp = none ∧ x.kc = 0 ∧ x.kids = []) (hd : x.dp = none ∧ x.dc = 0 ∧ x.data = []) {w : World} {F : HProp} (s : sat w (star (own x.blk (.cells x.cs.toArray 85 (0, 0))) F)) : sat w (star (nd x) F) := by
  obtain ⟨blk, born, id, par, dir, name, kp, kc, kids, dp, dc, data, a⟩ := x
  obtain ⟨rfl, rfl, rfl⟩ := hk
  obtain ⟨rfl, rfl, rfl⟩ := hd
  unfold nd ndL
  simp only [St_cons, St_nil, star_emp, star_assoc]
  rw [star_left_comm]
  refine row_nil ?_
  rw [star_left_comm]
  exact row_nil s
theorem nds_snoc (ns : List Nd) (x : Nd) : nds (ns ++ [x]) = star (nds ns) (nd x) := by
  unfold nds; rw [List.map_append, St_append]
  show star _ (St [nd x]) = _
  rw [St_cons, St_nil, star_emp]
theorem made_new {b : Nat} {o : Obj} {A B : HProp} {ns : List Nd} {w : World} {F : HProp} (s : sat w (star (St [own b o, A, B, nds ns]) F)) : ∀ x ∈ ns, x.blk ≠ b := fun x hx => by
  obtain ⟨i, hi⟩ := nds_pick hx
  simp only [St_cons, St_nil, star_emp, star_assoc] at s
  rw [star_left_comm A, star_left_comm A] at s
  have s1 : sat w (star (own b o) (star (nds ns) (star A (star B F)))) := by
    rw [star_left_comm (nds ns) A, star_left_comm (nds ns) B]
    simpa only [star_left_comm A] using s
  rw [nds, St_pick hi, star_assoc, nd, ndL, St_cons, star_assoc] at s1
  exact (own_ne s1).symm
theorem made_pack {x : Nd} (hk : x.kp = none ∧ x.kc = 0 ∧ x.kids = []) (hd : x.dp = none ∧ x.dc = 0 ∧ x.data = []) {A : HProp} {m : Obj} {mb : Nat} {m2 : Obj} {ns : List Nd} {w : World} {F : HProp} (hm : m = m2) (s : sat w (star (St [own x.blk (.cells x.cs.toArray 85 (0, 0)), A, own mb m, nds ns]) F)) : sat w (star (St [A, own mb m2, nds (ns ++ [x])]) F) := by
  subst hm
  rw [nds_snoc]
  simp only [St_cons, St_nil, star_emp, star_assoc] at s ⊢
  have s1 := ndL_nil x hk hd s
  rw [star_left_comm (nd x) A, star_left_comm (nd x), star_left_comm (nd x)] at s1
  exact s1
theorem made_spec (tb mb ck nx bs : Nat) (rv : Value) (hrv : rv.oneCell' = true) (ns : List Nd) (nm : List UInt8) (dir : Bool) (par : Int) (hn : nx ≤ 9223372036854775806) (hfr : ∀ y ∈ ns.map Nd.me, y.k ≠ (nx : Int)) :
    Tri Try.prog 35 [.pointer (some ⟨tb, 0, none⟩), .string (str nm), .bool dir] [own tb (.cells ([rv, .map (some mb), .int .i64 (nx : Int), .int .i64 (bs : Int)] : List Value).toArray 78 (0, 0)), own mb (mapO ((ns).map Nd.me) ck), nds ns] (fun v H' => ∃ b, v = .pointer (some ⟨b, 0, none⟩) ∧ (∀ x ∈ ns, x.blk ≠ b) ∧ H' = [own tb (.cells ([rv, .map (some mb), .int .i64 ((nx + 1 : Nat) : Int), .int .i64 (bs : Int)] : List Value).toArray 78 (0, 0)), own mb (mapO ((ns ++ [(⟨b, ck, nx, par, dir, nm, none, 0, [], none, 0, [], mkA dir⟩ : Nd)]).map Nd.me) (ck + 1)), nds (ns ++ [(⟨b, ck, nx, par, dir, nm, none, 0, [], none, 0, [], mkA dir⟩ : Nd)])]) := by
  refine tri_of_wpS Try.func35 rfl Try.ntmps35 (by simp) ?_
  refine wp_seq' ?_
  refine wp_region' ?_
  refine ops_ro' rfl (ro_assign rfl) rfl ?_
  refine ops_nil ?_
  refine Then_normal ?_
  refine wp_seq' ?_
  refine wp_region' ?_
  refine ops_ro' rfl (ro_move rfl) rfl ?_
  refine ops_ro' rfl (ro_nilCheck rfl) rfl ?_
  refine ops_ro' rfl (ro_fieldAddr fa78_2 rfl) rfl ?_
  refine ops_ro' rfl (ro_load sc3 rfl (Rd.pick 0 rfl (Rd.own rfl))) rfl ?_
  refine ops_ro' rfl (ro_move rfl) rfl ?_
  refine ops_ro' rfl (ro_move rfl) rfl ?_
  refine ops_ro' rfl (ro_build rfl (bld_struct (cs := At.cs (⟨15, 0, 0, 0, 33188, 0, 0⟩ : At)) st40 rfl)) rfl ?_
  refine ops_ro' rfl (ro_build rfl (bld_struct (cs := Nd.cs (⟨0, ck, nx, par, dir, nm, none, 0, [], none, 0, [], (⟨15, 0, 0, 0, 33188, 0, 0⟩ : At)⟩ : Nd)) st85 rfl)) rfl ?_
  refine ops_eff' rfl (eff_box rfl) rfl ?_
  rintro _ _ ⟨b16, rfl, rfl⟩
  refine ops_ro' rfl (ro_assign rfl) rfl ?_
  refine ops_nil ?_
  refine Then_normal ?_
  refine wp_cutK 1004 (fun Δ LL => ∃ (a : At), (a = mkA dir) ∧ Δ = [] ∧ LL = [own b16 (.cells (Nd.cs (⟨b16, ck, nx, par, dir, nm, none, 0, [], none, 0, [], a⟩ : Nd)).toArray 85 (0, 0)), own tb (.cells ([rv, .map (some mb), .int .i64 (nx : Int), .int .i64 (bs : Int)] : List Value).toArray 78 (0, 0)), own mb (mapO ((ns).map Nd.me) ck), nds ns]) (Has.cons (k := 0) rfl (Has.cons (k := 7) rfl (Has.nil _))) ?_ ?_
  · refine wp_seq' ?_
    refine wp_region' ?_
    refine ops_ro' rfl (ro_move rfl) rfl ?_
    refine ops_nil ?_
    refine Then_normal ?_
    refine wp_cond' rfl (fun hc17 => ?_) (fun hc17 => ?_)
    · skip
      refine wp_region' ?_
      refine ops_ro' rfl (ro_move rfl) rfl ?_
      refine ops_ro' rfl (ro_nilCheck rfl) rfl ?_
      refine ops_ro' rfl (ro_fieldAddr fa85_5 rfl) rfl ?_
      refine ops_ro' rfl (ro_fieldAddr fa40_4 rfl) rfl ?_
      refine ops_eff0 rfl (eff_store 0 sc37 rfl rfl rfl rfl (Nat.le_of_ble_eq_true rfl) (warm_zero _)) rfl ?_
      rintro _ _ rfl
      refine ops_nil ?_
      refine Then_normal ?_
      refine over_cut (kept ⟨(⟨15, 0, 0, 0, 16877, 0, 0⟩ : At), by rw [mkA, if_pos hc17], rfl, rfl⟩ ?_ ?_ ?_)
      · exact (by repeat (first | exact Has.nil _ | refine Has.cons rfl ?_))
      · exact (by repeat (first | exact Has.nil _ | refine Has.cons rfl ?_))
      · exact SubH.refl _
    · skip
      refine wp_skip' ?_
      refine Then_normal ?_
      refine over_cut (kept ⟨(⟨15, 0, 0, 0, 33188, 0, 0⟩ : At), by rw [mkA, if_neg (by simpa using hc17)], rfl, rfl⟩ ?_ ?_ ?_)
      · exact (by repeat (first | exact Has.nil _ | refine Has.cons rfl ?_))
      · exact (by repeat (first | exact Has.nil _ | refine Has.cons rfl ?_))
      · exact SubH.refl _
  · rintro Δ LL ⟨a, ha, rfl, rfl⟩
    simp only [List.cons_append, List.nil_append]
    refine wp_seq' ?_
    refine wp_draw 9 (by kernel_rfl) (Split.all _) ?_
    refine any_ro' (i := 0) (by kernel_rfl) rfl rfl (ro_move rfl) rfl (fun _ _ _ h => h) ?_
    refine any_ro' (i := 1) (by kernel_rfl) rfl rfl (ro_nilCheck rfl) rfl (fun _ _ _ h => h) ?_
    refine any_ro' (i := 2) (by kernel_rfl) rfl rfl (ro_fieldAddr fa78_1 rfl) rfl (fun _ _ _ h => h) ?_
    refine any_ro' (i := 3) (by kernel_rfl) rfl rfl (ro_load sc75 rfl (Rd.pick 1 rfl (Rd.own rfl))) rfl (fun _ _ _ h => h) ?_
    refine any_ro' (i := 4) (by kernel_rfl) rfl rfl (ro_move rfl) rfl (fun _ _ _ h => h) ?_
    refine any_ro' (i := 5) (by kernel_rfl) rfl rfl (ro_nilCheck rfl) rfl (fun _ _ _ h => h) ?_
    refine any_ro' (i := 6) (by kernel_rfl) rfl rfl (ro_fieldAddr fa85_0 rfl) rfl (fun _ _ _ h => h) ?_
    refine any_ro' (i := 7) (by kernel_rfl) rfl rfl (ro_load sc3 rfl (Rd.pick 0 rfl (Rd.own rfl))) rfl (fun _ _ _ h => h) ?_
    refine any_ro' (i := 8) (by kernel_rfl) rfl rfl (ro_move rfl) rfl (fun _ _ _ h => h) ?_
    refine any_unlock (m' := 10) (L' := []) (by kernel_rfl) unlock ?_
    simp only [List.cons_append, List.nil_append, List.append_nil]
    refine any_eff0 (i := 9) (by kernel_rfl) rfl rfl (eff_mapUpdate 2 Try.underlying75 Try.underlying3 rfl rfl rfl rfl hfr) rfl ?_
    rintro _ _ rfl
    simp only [List.set_cons_zero, List.set_cons_succ]
    refine any_doneH (by kernel_rfl) ?_
    refine Then_normal ?_
    refine wp_seq' ?_
    refine wp_region' ?_
    refine ops_ro' rfl (ro_move rfl) rfl ?_
    refine ops_ro' rfl (ro_nilCheck rfl) rfl ?_
    refine ops_ro' rfl (ro_fieldAddr fa78_2 rfl) rfl ?_
    refine ops_ro' rfl (ro_load sc3 rfl (Rd.pick 1 rfl (Rd.own rfl))) rfl ?_
    refine ops_ro' rfl (ro_add rfl rfl (wrap_inc (by omega))) rfl ?_
    refine ops_ro' rfl (ro_nilCheck rfl) rfl ?_
    refine ops_ro' rfl (ro_fieldAddr fa78_2 rfl) rfl ?_
    refine ops_eff0 rfl (eff_store 1 sc3 rfl rfl rfl rfl (Nat.le_of_ble_eq_true rfl) (warm_zero _)) rfl ?_
    rintro _ _ rfl
    refine ops_nil ?_
    refine Then_normal ?_
    refine wp_seq' ?_
    refine wp_know (fun w F s => made_new s) ?_
    intro hnew
    refine wp_heap (H' := [own tb (.cells ([rv, .map (some mb), .int .i64 ((nx + 1 : Nat) : Int), .int .i64 (bs : Int)] : List Value).toArray 78 (0, 0)), own mb (mapO ((ns ++ [(⟨b16, ck, nx, par, dir, nm, none, 0, [], none, 0, [], a⟩ : Nd)]).map Nd.me) (ck + 1)), nds (ns ++ [(⟨b16, ck, nx, par, dir, nm, none, 0, [], none, 0, [], a⟩ : Nd)])]) (fun w F s => made_pack (x := (⟨b16, ck, nx, par, dir, nm, none, 0, [], none, 0, [], a⟩ : Nd)) ⟨rfl, rfl, rfl⟩ ⟨rfl, rfl, rfl⟩ (by rw [List.map_append]; rfl) s) ?_
    refine wp_region' ?_
    refine ops_ro' rfl (ro_move rfl) rfl ?_
    refine ops_ro' rfl (ro_assign rfl) rfl ?_
    refine ops_nil ?_
    refine Then_normal ?_
    refine wp_ret' ?_
    refine' doneS_ret (res1 rfl rfl) ?_ ?_
    rotate_left 1
    exact ⟨b16, rfl, hnew, by rw [← ha]⟩
    exact SubH.refl _

end Go.Proofs.Ytbbmhppkhcodfaa
