/-
  What Remove refuses; the runs of chapter 15.
-/
import Derived.Test.YtbbmhppkhcodfaaTrU
namespace Go.Proofs.Ytbbmhppkhcodfaa
open Go.Sx
set_option linter.unusedVariables false
set_option linter.unusedSimpArgs false
set_option maxRecDepth 100000
set_option maxHeartbeats 4000000

def remE (ns : List Nd) (r : Nd) (p : List (List UInt8)) (dir : Bool) : Int :=
  if p.length = 0 then 1 else match fnd ns r p with
    | none => 22
    | some x => if x.dir ≠ dir then 23 else if 0 < x.kids.length then 27 else 0
theorem remE_nil {ns : List Nd} {r : Nd} {p : List (List UInt8)} {dir : Bool} (h : p.length = 0) : remE ns r p dir = 1 := by unfold remE; rw [if_pos h]
theorem remE_none {ns : List Nd} {r : Nd} {p : List (List UInt8)} {dir : Bool} (h : ¬ p.length = 0) (h1 : fnd ns r p = none) : remE ns r p dir = 22 := by unfold remE; rw [if_neg h, h1]
theorem remE_kind {ns : List Nd} {r x : Nd} {p : List (List UInt8)} {dir : Bool} (h : ¬ p.length = 0) (h1 : fnd ns r p = some x) (h2 : x.dir ≠ dir) : remE ns r p dir = 23 := by unfold remE; rw [if_neg h, h1]; simp only; rw [if_pos h2]
theorem remE_used {ns : List Nd} {r x : Nd} {p : List (List UInt8)} {dir : Bool} (h : ¬ p.length = 0) (h1 : fnd ns r p = some x) (h2 : x.dir = dir) (h3 : 0 < x.kids.length) : remE ns r p dir = 27 := by unfold remE; rw [if_neg h, h1]; simp only; rw [if_neg (by simp [h2]), if_pos h3]
theorem remE_ok {ns : List Nd} {r x : Nd} {p : List (List UInt8)} {dir : Bool} (h : ¬ p.length = 0) (h1 : fnd ns r p = some x) (h2 : x.dir = dir) (h3 : ¬ 0 < x.kids.length) : remE ns r p dir = 0 := by unfold remE; rw [if_neg h, h1]; simp only; rw [if_neg (by simp [h2]), if_neg h3]
/-- what is refused changes nothing -/
theorem remBad_spec {V : HProp} {t : Tr} {r : Nd} (hW : Wf t r) (q : Option Addr) (cq : Nat) (p : List (List UInt8)) (hV : Vw V (.slice q p.length cq) p.length (txs p)) (hl : p.length ≤ 100000) (dir : Bool) (he : remE t.ns r p dir ≠ 0) :
    Tri Try.prog 29 [t.v, .slice q p.length cq, .bool dir] [tree t, V] (fun v H' => v = .int .i64 (remE t.ns r p dir) ∧ H' = [tree t, V]) := by
  cases hb : fnd t.ns r p with
  | none =>
    refine tri_of_wpS Try.func29 rfl Try.ntmps29 (by simp) ?_
    refine wp_seq' ?_
    refine wp_region' ?_
    refine ops_ro' rfl (ro_assign rfl) rfl ?_
    refine ops_nil ?_
    refine Then_normal ?_
    refine wp_seq' ?_
    refine wp_region' ?_
    refine ops_ro' rfl (ro_move rfl) rfl ?_
    refine ops_ro' rfl (ro_move rfl) rfl ?_
    refine ops_eff' rfl (eff_callM (Pre := []) Try.call44 rfl rfl (Split.nil _) (find_spec (Tv.pick 0 rfl (tree_tv t)) hW q cq p (by first | exact (Vw.pick 0 rfl hV) | exact (Vw.pick 1 rfl hV) | exact (Vw.pick 2 rfl hV) | exact Vw.pick 0 rfl Vw.row | exact Vw.pick 1 rfl Vw.row | exact Vw.pick 2 rfl Vw.row | exact Vw.nil _ | exact Vw.empty _ _) hl)) rfl ?_
    rintro _ H' ⟨_, ⟨rfl, rfl⟩, hH⟩
    simp only [List.cons_append, List.nil_append, List.eraseIdx_cons_zero, List.eraseIdx_cons_succ, List.set_cons_zero, List.set_cons_succ] at hH
    subst hH
    rw [hb]
    dsimp only [ptrO, Option.map]
    refine ops_ro' rfl (ro_assign rfl) rfl ?_
    refine ops_nil ?_
    refine Then_normal ?_
    refine wp_seq' ?_
    refine wp_block' ?_
    refine wp_seq' ?_
    refine wp_region' ?_
    refine ops_ro' rfl (ro_move rfl) rfl ?_
    refine ops_ro' rfl (ro_sliceLen Try.underlying29 rfl) rfl ?_
    refine ops_ro' rfl (ro_eql rfl rfl rfl) rfl ?_
    refine ops_ro' rfl (ro_assign rfl) rfl ?_
    refine ops_nil ?_
    refine Then_normal ?_
    refine wp_cond' rfl (fun hc11 => ?_) (fun hc11 => ?_)
    · replace hc11 := of_decide_eq_true hc11
      refine wp_seq' ?_
      refine wp_region' ?_
      refine ops_ro' rfl (ro_assign rfl) rfl ?_
      refine ops_nil ?_
      refine Then_normal ?_
      refine wp_ret' ?_
      refine InBlock_ret ?_
      refine Then_ret ?_
      refine' doneS_ret (res1 rfl rfl) ?_ ?_
      rotate_left 1
      exact ⟨by rw [remE_nil (by omega)], rfl⟩
      exact SubH.refl _
    · replace hc11 := of_decide_eq_false hc11
      have hp : ¬ p.length = 0 := by omega
      refine wp_seq' ?_
      refine wp_region' ?_
      refine ops_ro' rfl (ro_move rfl) rfl ?_
      refine ops_ro' rfl (ro_ptrEqlNil Try.underlying76 rfl rfl rfl) rfl ?_
      refine ops_ro' rfl (ro_assign rfl) rfl ?_
      refine ops_nil ?_
      refine Then_normal ?_
      refine wp_condT rfl ?_
      refine wp_seq' ?_
      refine wp_region' ?_
      refine ops_ro' rfl (ro_assign rfl) rfl ?_
      refine ops_nil ?_
      refine Then_normal ?_
      refine wp_ret' ?_
      refine InBlock_ret ?_
      refine Then_ret ?_
      refine' doneS_ret (res1 rfl rfl) ?_ ?_
      rotate_left 1
      exact ⟨by rw [remE_none hp hb], rfl⟩
      exact SubH.refl _
  | some x =>
    have hx := fnd_mem hW.root hb
    refine tri_of_wpS Try.func29 rfl Try.ntmps29 (by simp) ?_
    refine wp_seq' ?_
    refine wp_region' ?_
    refine ops_ro' rfl (ro_assign rfl) rfl ?_
    refine ops_nil ?_
    refine Then_normal ?_
    refine wp_seq' ?_
    refine wp_region' ?_
    refine ops_ro' rfl (ro_move rfl) rfl ?_
    refine ops_ro' rfl (ro_move rfl) rfl ?_
    refine ops_eff' rfl (eff_callM (Pre := []) Try.call44 rfl rfl (Split.nil _) (find_spec (Tv.pick 0 rfl (tree_tv t)) hW q cq p (by first | exact (Vw.pick 0 rfl hV) | exact (Vw.pick 1 rfl hV) | exact (Vw.pick 2 rfl hV) | exact Vw.pick 0 rfl Vw.row | exact Vw.pick 1 rfl Vw.row | exact Vw.pick 2 rfl Vw.row | exact Vw.nil _ | exact Vw.empty _ _) hl)) rfl ?_
    rintro _ H' ⟨_, ⟨rfl, rfl⟩, hH⟩
    simp only [List.cons_append, List.nil_append, List.eraseIdx_cons_zero, List.eraseIdx_cons_succ, List.set_cons_zero, List.set_cons_succ] at hH
    subst hH
    rw [hb]
    dsimp only [ptrO, Option.map]
    refine ops_ro' rfl (ro_assign rfl) rfl ?_
    refine ops_nil ?_
    refine Then_normal ?_
    refine wp_seq' ?_
    refine wp_block' ?_
    refine wp_seq' ?_
    refine wp_region' ?_
    refine ops_ro' rfl (ro_move rfl) rfl ?_
    refine ops_ro' rfl (ro_sliceLen Try.underlying29 rfl) rfl ?_
    refine ops_ro' rfl (ro_eql rfl rfl rfl) rfl ?_
    refine ops_ro' rfl (ro_assign rfl) rfl ?_
    refine ops_nil ?_
    refine Then_normal ?_
    refine wp_cond' rfl (fun hc11 => ?_) (fun hc11 => ?_)
    · replace hc11 := of_decide_eq_true hc11
      refine wp_seq' ?_
      refine wp_region' ?_
      refine ops_ro' rfl (ro_assign rfl) rfl ?_
      refine ops_nil ?_
      refine Then_normal ?_
      refine wp_ret' ?_
      refine InBlock_ret ?_
      refine Then_ret ?_
      refine' doneS_ret (res1 rfl rfl) ?_ ?_
      rotate_left 1
      exact ⟨by rw [remE_nil (by omega)], rfl⟩
      exact SubH.refl _
    · replace hc11 := of_decide_eq_false hc11
      have hp : ¬ p.length = 0 := by omega
      refine wp_seq' ?_
      refine wp_region' ?_
      refine ops_ro' rfl (ro_move rfl) rfl ?_
      refine ops_ro' rfl (ro_ptrEqlNil Try.underlying76 rfl rfl rfl) rfl ?_
      refine ops_ro' rfl (ro_assign rfl) rfl ?_
      refine ops_nil ?_
      refine Then_normal ?_
      refine wp_condF rfl ?_
      refine wp_seq' ?_
      refine wp_region' ?_
      refine ops_ro' rfl (ro_move rfl) rfl ?_
      refine ops_ro' rfl (ro_nilCheck rfl) rfl ?_
      refine ops_ro' rfl (ro_fieldAddr fa85_1 rfl) rfl ?_
      refine ops_ro' rfl (ro_load sc4 rfl (Rd.pick 0 rfl (((tree_tv t).nd x hx 1 _ rfl)))) rfl ?_
      refine ops_ro' rfl (ro_move rfl) rfl ?_
      refine ops_ro' rfl (ro_neq_bool Try.underlying4 rfl rfl (c := decide (x.dir ≠ dir)) (by cases x.dir <;> cases dir <;> rfl)) rfl ?_
      refine ops_ro' rfl (ro_assign rfl) rfl ?_
      refine ops_nil ?_
      refine Then_normal ?_
      refine wp_cond' rfl (fun hc18 => ?_) (fun hc18 => ?_)
      · replace hc18 := of_decide_eq_true hc18
        refine wp_seq' ?_
        refine wp_region' ?_
        refine ops_ro' rfl (ro_assign rfl) rfl ?_
        refine ops_nil ?_
        refine Then_normal ?_
        refine wp_ret' ?_
        refine InBlock_ret ?_
        refine Then_ret ?_
        refine' doneS_ret (res1 rfl rfl) ?_ ?_
        rotate_left 1
        exact ⟨by rw [remE_kind hp hb (by simpa using hc18)], rfl⟩
        exact SubH.refl _
      · replace hc18 := of_decide_eq_false hc18
        have hdd : x.dir = dir := by simpa using hc18
        refine wp_seq' ?_
        refine wp_region' ?_
        refine ops_ro' rfl (ro_move rfl) rfl ?_
        refine ops_ro' rfl (ro_nilCheck rfl) rfl ?_
        refine ops_ro' rfl (ro_fieldAddr fa85_3 rfl) rfl ?_
        refine ops_ro' rfl (ro_load sc82 rfl (Rd.pick 0 rfl (((tree_tv t).nd x hx 3 _ rfl)))) rfl ?_
        refine ops_ro' rfl (ro_sliceLen Try.underlying82 rfl) rfl ?_
        refine ops_ro' rfl (ro_gtr rfl rfl rfl) rfl ?_
        refine ops_ro' rfl (ro_assign rfl) rfl ?_
        refine ops_nil ?_
        refine Then_normal ?_
        refine wp_cond' rfl (fun hc25 => ?_) (fun hc25 => ?_)
        · replace hc25 := of_decide_eq_true hc25
          refine wp_seq' ?_
          refine wp_region' ?_
          refine ops_ro' rfl (ro_assign rfl) rfl ?_
          refine ops_nil ?_
          refine Then_normal ?_
          refine wp_ret' ?_
          refine InBlock_ret ?_
          refine Then_ret ?_
          refine' doneS_ret (res1 rfl rfl) ?_ ?_
          rotate_left 1
          exact ⟨by rw [remE_used hp hb hdd (by omega)], rfl⟩
          exact SubH.refl _
        · replace hc25 := of_decide_eq_false hc25
          exact absurd (remE_ok hp hb hdd (by omega)) he


theorem kid_cons (y : Nd) (r : List Nd) (i : Int) (s : List UInt8) : kid (y :: r) i s = if y.par = i ∧ y.name = s then some y else kid r i s := by
  unfold kid
  rw [List.find?_cons]
  by_cases h : y.par = i ∧ y.name = s
  · rw [if_pos h, decide_eq_true h.1, decide_eq_true h.2]; rfl
  · rw [if_neg h]
    have e : (decide (y.par = i) && decide (y.name = s)) = false := by
      cases hh : (decide (y.par = i) && decide (y.name = s)) with
      | false => rfl
      | true => simp only [Bool.and_eq_true, decide_eq_true_eq] at hh; exact absurd hh h
    rw [e]
theorem kid_nil (i : Int) (s : List UInt8) : kid [] i s = none := rfl
theorem byId_cons (y : Nd) (r : List Nd) (k : Int) : byId (y :: r) k = if (y.id : Int) = k then some y else byId r k := by
  unfold byId
  rw [List.find?_cons]
  by_cases h : (y.id : Int) = k
  · rw [if_pos h, decide_eq_true h]
  · rw [if_neg h, decide_eq_false h]
/-- the first thing that is made -/
theorem mk_first {t : Tr} {r : Nd} {nm : List UInt8} {dir : Bool} {t' : Tr} {r' : Nd} {i e : Int} (hW : Wf t r) (hns : t.ns = [r]) (hok : ptOk nm = true) (h : MakeR t r [nm] dir t' r' i e) :
    i = t.next ∧ e = 0 ∧ t'.next = t.next + 1 ∧ t'.bytes = t.bytes ∧ t'.tb = t.tb ∧ ∃ b, r'.par = -1 ∧ r'.id = 0 ∧ r'.blk = r.blk ∧ t'.ns = [r', newNd b t.ck t.next 0 dir nm] := by
  have hk : kid t.ns r.id nm = none := by
    rw [hns, kid_cons, if_neg (fun h => by have := h.1; rw [hW.rpar] at this; omega), kid_nil]
  have hh : holdO t.ns r [nm] = ((some r, kpl t.ns r nm), 0) := by
    unfold holdO
    rw [if_pos (show ptOk (lastN [nm]) = true from hok)]
    rw [show fnd t.ns r (List.take ([nm].length - 1) [nm]) = some r from rfl]
    simp only
    rw [if_pos hW.rdir, if_neg (by rw [show lastN [nm] = nm from rfl, hk]; decide)]; rfl
  rcases h with ⟨_, _, _, h | h | h⟩ | ⟨_, x, h1, _, h2, h3, b, kp, kc, hb, h4, h5⟩
  · exact absurd h.1 (by simp)
  · have := h.2.2.1; rw [hns] at this; simp at this
  · rw [hh] at h; have := congrArg (fun z => z.1.1) h.2.1; simp at this
  · rw [hh] at h1
    have e1 : x = r := by have := congrArg (fun z => z.1.1) h1; simpa using this.symm
    subst e1
    refine ⟨h2, h3, by rw [h4]; rfl, by rw [h4]; rfl, by rw [h4]; rfl, b, ?_⟩
    rw [if_pos rfl] at h5
    have h5' := h5
    rw [hns] at h5'
    have e2 : (x.id : Int) = 0 := by rw [hW.rid]; rfl
    refine ⟨by rw [h5]; exact hW.rpar, by rw [h5]; exact hW.rid, by rw [h5]; rfl, ?_⟩
    rw [h4]
    show turnB x.blk _ t.ns ++ [newNd b t.ck t.next x.id dir (lastN [nm])] = _
    rw [hns, e2]
    show (if x.blk = x.blk then _ else _) :: ([] ++ [_]) = _
    rw [if_pos rfl, h5']; rfl
/-- a thing in the directory that was made first -/
theorem mk_second {t : Tr} {r d : Nd} {nm n2 : List UInt8} {dir : Bool} {t' : Tr} {r' : Nd} {i e : Int} (hW : Wf t r) (hns : t.ns = [r, d]) (hd : d.id = 1 ∧ d.par = 0 ∧ d.dir = true ∧ d.name = nm ∧ d.kids = []) (hok : ptOk n2 = true) (h : MakeR t r [nm, n2] dir t' r' i e) :
    i = t.next ∧ e = 0 ∧ t'.ns.length = 3 ∧ remE t'.ns r' [nm] true = 27 ∧ t'.tb = t.tb := by
  obtain ⟨d1, d2, d3, d4, d5⟩ := hd
  have hr := hW.rid
  have hp := hW.rpar
  have hf : fnd t.ns r [nm] = some d := by
    show (match kid t.ns r.id nm with | some y => fnd t.ns y [] | none => none) = _
    rw [hns, kid_cons, if_neg (fun h => by have := h.1; omega), kid_cons, if_pos ⟨by omega, d4⟩]; rfl
  have hk : kid t.ns d.id n2 = none := by
    rw [hns, kid_cons, if_neg (fun h => by have := h.1; omega), kid_cons, if_neg (fun h => by have := h.1; omega), kid_nil]
  have hh : holdO t.ns r [nm, n2] = ((some d, kpl t.ns d n2), 0) := by
    unfold holdO
    rw [if_pos (show ptOk (lastN [nm, n2]) = true from hok)]
    rw [show List.take ([nm, n2].length - 1) [nm, n2] = [nm] from rfl, hf]
    simp only
    rw [if_pos d3, if_neg (by rw [show lastN [nm, n2] = n2 from rfl, hk]; decide)]; rfl
  rcases h with ⟨_, _, _, h | h | h⟩ | ⟨_, x, h1, _, h2, h3, b, kp, kc, hb, h4, h5⟩
  · exact absurd h.1 (by simp)
  · have := h.2.2.1; rw [hns] at this; simp at this
  · rw [hh] at h; have := congrArg (fun z => z.1.1) h.2.1; simp at this
  · rw [hh] at h1
    have e1 : x = d := by have := congrArg (fun z => z.1.1) h1; simpa using this.symm
    subst e1
    have hne : r.blk ≠ x.blk := fun e => by
      have h6 := hW.kd.blks
      rw [hns] at h6
      simp at h6; exact h6 e
    rw [if_neg hne] at h5
    have hn : t'.ns = [r, heldF kp kc (kpl [r, x] x n2) b x, newNd b t.ck t.next x.id dir n2] := by
      rw [h4]
      show turnB x.blk _ t.ns ++ [_] = _
      rw [hns]
      show (if r.blk = x.blk then _ else _) :: (if x.blk = x.blk then _ else _) :: ([] ++ [_]) = _
      rw [if_neg hne, if_pos rfl]; rfl
    refine ⟨h2, h3, by rw [hn]; rfl, ?_, by rw [h4]; rfl⟩
    rw [h5]
    refine remE_used (x := heldF kp kc (kpl [r, x] x n2) b x) (by simp) ?_ d3 ?_
    · show (match kid t'.ns r.id nm with | some y => fnd t'.ns y [] | none => none) = _
      rw [hn, kid_cons, if_neg (fun h => by have := h.1; omega), kid_cons, if_pos ⟨by show x.par = _; omega, d4⟩]; rfl
    · show 0 < (insAt x.kids _ b).length
      rw [insAt_len (by have := plc_le (x.kids.map (nmB [r, x])) n2; rw [List.length_map] at this; exact this)]; omega


theorem known15_spec : Tri Try.prog 18 [] [] (fun v H' => v = .bool true ∧ H' = []) := by
  refine tri_of_wpS Try.func18 rfl Try.ntmps18 (by simp) ?_
  refine wp_seq' ?_
  refine wp_region' ?_
  refine ops_ro' rfl (ro_assign rfl) rfl ?_
  refine ops_nil ?_
  refine Then_normal ?_
  refine wp_seq' ?_
  refine wp_region' ?_
  refine ops_eff' rfl (eff_call Try.call10 rfl rfl (by repeat (first | exact Split.nil _ | apply Split.cons 0 rfl | apply Split.cons 1 rfl | apply Split.cons 2 rfl | apply Split.cons 3 rfl | apply Split.cons 4 rfl | apply Split.cons 5 rfl | apply Split.cons 6 rfl | apply Split.cons 7 rfl | apply Split.cons 8 rfl | apply Split.cons 9 rfl | apply Split.cons 10 rfl | apply Split.cons 11 rfl)) (new_spec)) rfl ?_
  rintro _ H' ⟨_, ⟨t, r, rfl, hn1, hn2, hW, rfl⟩, hH⟩
  simp only [List.cons_append, List.nil_append, List.eraseIdx_cons_zero, List.eraseIdx_cons_succ, List.set_cons_zero, List.set_cons_succ] at hH
  subst hH
  refine ops_ro' rfl (ro_assign rfl) rfl ?_
  refine ops_nil ?_
  refine Then_normal ?_
  refine wp_seq' ?_
  refine wp_seq' ?_
  refine wp_region' ?_
  refine ops_ro' rfl (ro_move rfl) rfl ?_
  refine ops_ro' rfl (ro_ptrEqlNil Try.underlying24 rfl rfl rfl) rfl ?_
  refine ops_nil ?_
  refine Then_normal ?_
  refine wp_condF rfl ?_
  refine wp_skip' ?_
  refine Then_normal ?_
  refine wp_seq' ?_
  refine wp_region' ?_
  refine ops_ro' rfl (ro_move rfl) rfl ?_
  refine ops_eff' rfl (eff_lit sl29 rfl (sbld (cs := txs [[97]]) [(.string ByteArray.empty)] sl29 (by decide) (by kernel_rfl) rfl) rfl (by decide)) rfl ?_
  rintro _ _ ⟨b11, rfl, rfl⟩
  refine ops_eff' rfl (eff_call Try.call11 rfl rfl (by repeat (first | exact Split.nil _ | apply Split.cons 0 rfl | apply Split.cons 1 rfl | apply Split.cons 2 rfl | apply Split.cons 3 rfl | apply Split.cons 4 rfl | apply Split.cons 5 rfl | apply Split.cons 6 rfl | apply Split.cons 7 rfl | apply Split.cons 8 rfl | apply Split.cons 9 rfl | apply Split.cons 10 rfl | apply Split.cons 11 rfl)) (make_spec (V := row 9 1 (.slice (some ⟨b11, 0, none⟩) 1 1) 1 (txs [[97]])) hW (by omega) _ _ [[97]] Vw.row (by decide) (by decide) (by decide) true)) rfl ?_
  rintro _ H' ⟨_, ⟨t1, r1, i1, e1, rfl, hR1, hW1, rfl⟩, hH⟩
  simp only [List.cons_append, List.nil_append, List.eraseIdx_cons_zero, List.eraseIdx_cons_succ, List.set_cons_zero, List.set_cons_succ] at hH
  subst hH
  obtain ⟨rfl, rfl, hx1, _, htb, bb, _, _, _, hx2⟩ := mk_first hW hn1 (by decide) hR1
  rw [hn2] at hx1 ⊢
  rw [show Tr.v t = Tr.v t1 from by rw [Tr.v, Tr.v, htb]]
  refine ops_ro' rfl (ro_move rfl) rfl ?_
  refine ops_ro' rfl (ro_extract rfl rfl) rfl ?_
  refine ops_ro' rfl (ro_extract rfl rfl) rfl ?_
  refine ops_ro' rfl (ro_assign rfl) rfl ?_
  refine ops_ro' rfl (ro_assign rfl) rfl ?_
  refine ops_nil ?_
  refine Then_normal ?_
  refine wp_seq' ?_
  refine wp_region' ?_
  refine ops_ro' rfl (ro_move rfl) rfl ?_
  refine ops_eff' rfl (eff_lit sl29 rfl (sbld (cs := txs [[97], [98]]) [(.string ByteArray.empty), (.string ByteArray.empty)] sl29 (by decide) (by kernel_rfl) rfl) rfl (by decide)) rfl ?_
  rintro _ _ ⟨b17, rfl, rfl⟩
  refine ops_eff' rfl (eff_call Try.call11 rfl rfl (by repeat (first | exact Split.nil _ | apply Split.cons 0 rfl | apply Split.cons 1 rfl | apply Split.cons 2 rfl | apply Split.cons 3 rfl | apply Split.cons 4 rfl | apply Split.cons 5 rfl | apply Split.cons 6 rfl | apply Split.cons 7 rfl | apply Split.cons 8 rfl | apply Split.cons 9 rfl | apply Split.cons 10 rfl | apply Split.cons 11 rfl)) (make_spec (V := row 9 1 (.slice (some ⟨b17, 0, none⟩) 2 2) 2 (txs [[97], [98]])) hW1 (by omega) _ _ [[97], [98]] Vw.row (by decide) (by decide) (by decide) false)) rfl ?_
  rintro _ H' ⟨_, ⟨t2, r2, i2, e2, rfl, hR2, hW2, rfl⟩, hH⟩
  simp only [List.cons_append, List.nil_append, List.eraseIdx_cons_zero, List.eraseIdx_cons_succ, List.set_cons_zero, List.set_cons_succ] at hH
  subst hH
  obtain ⟨rfl, rfl, hx3, hx4, htb2⟩ := mk_second (nm := [97]) (n2 := [98]) hW1 hx2 ⟨by rw [hn2]; rfl, rfl, rfl, rfl, rfl⟩ (by decide) hR2
  rw [hx1, show Tr.v t1 = Tr.v t2 from by rw [Tr.v, Tr.v, htb2]]
  refine ops_ro' rfl (ro_move rfl) rfl ?_
  refine ops_ro' rfl (ro_extract rfl rfl) rfl ?_
  refine ops_ro' rfl (ro_extract rfl rfl) rfl ?_
  refine ops_ro' rfl (ro_assign rfl) rfl ?_
  refine ops_ro' rfl (ro_assign rfl) rfl ?_
  refine ops_nil ?_
  refine Then_normal ?_
  refine wp_seq' ?_
  refine wp_region' ?_
  refine ops_ro' rfl (ro_move rfl) rfl ?_
  refine ops_ro' rfl (ro_eql rfl rfl (decide_eq_true (by omega))) rfl ?_
  refine ops_ro' rfl (ro_move (v := .bool true) rfl) rfl ?_
  refine ops_ro' rfl (ro_move rfl) rfl ?_
  refine ops_ro' rfl (ro_eql rfl rfl (decide_eq_true (by omega))) rfl ?_
  refine ops_ro' rfl (ro_pick rfl rfl) rfl ?_
  refine ops_ro' rfl (ro_move (v := .bool true) rfl) rfl ?_
  refine ops_ro' rfl (ro_move rfl) rfl ?_
  refine ops_ro' rfl (ro_eql rfl rfl (decide_eq_true (by omega))) rfl ?_
  refine ops_ro' rfl (ro_pick rfl rfl) rfl ?_
  refine ops_ro' rfl (ro_move (v := .bool true) rfl) rfl ?_
  refine ops_ro' rfl (ro_move rfl) rfl ?_
  refine ops_ro' rfl (ro_eql rfl rfl (decide_eq_true (by omega))) rfl ?_
  refine ops_ro' rfl (ro_pick rfl rfl) rfl ?_
  refine ops_ro' rfl (ro_move (v := .bool true) rfl) rfl ?_
  refine ops_ro' rfl (ro_move rfl) rfl ?_
  refine ops_eff' rfl (eff_lit sl29 rfl (sbld (cs := txs [[97]]) [(.string ByteArray.empty)] sl29 (by decide) (by kernel_rfl) rfl) rfl (by decide)) rfl ?_
  rintro _ _ ⟨b37, rfl, rfl⟩
  refine ops_eff' rfl (eff_call Try.call29 rfl rfl (by repeat (first | exact Split.nil _ | apply Split.cons 0 rfl | apply Split.cons 1 rfl | apply Split.cons 2 rfl | apply Split.cons 3 rfl | apply Split.cons 4 rfl | apply Split.cons 5 rfl | apply Split.cons 6 rfl | apply Split.cons 7 rfl | apply Split.cons 8 rfl | apply Split.cons 9 rfl | apply Split.cons 10 rfl | apply Split.cons 11 rfl)) (remBad_spec (V := row 9 1 (.slice (some ⟨b37, 0, none⟩) 1 1) 1 (txs [[97]])) hW2 _ _ [[97]] Vw.row (by decide) true (by rw [hx4]; decide))) rfl ?_
  rintro _ H' ⟨_, ⟨rfl, rfl⟩, hH⟩
  simp only [List.cons_append, List.nil_append, List.eraseIdx_cons_zero, List.eraseIdx_cons_succ, List.set_cons_zero, List.set_cons_succ] at hH
  subst hH
  rw [hx4]
  refine ops_ro' rfl (ro_eql rfl rfl (decide_eq_true (by omega))) rfl ?_
  refine ops_ro' rfl (ro_pick rfl rfl) rfl ?_
  refine ops_ro' rfl (ro_move (v := .bool true) rfl) rfl ?_
  refine ops_ro' rfl (ro_move rfl) rfl ?_
  refine ops_eff' rfl (eff_callM (Pre := []) Try.call21 rfl rfl (Split.nil _) (count_spec (Tv.pick 0 rfl (tree_tv t2)))) rfl ?_
  rintro _ H' ⟨_, ⟨rfl, rfl⟩, hH⟩
  simp only [List.cons_append, List.nil_append, List.eraseIdx_cons_zero, List.eraseIdx_cons_succ, List.set_cons_zero, List.set_cons_succ] at hH
  subst hH
  rw [hx3]
  refine ops_ro' rfl (ro_eql rfl rfl (decide_eq_true (by omega))) rfl ?_
  refine ops_ro' rfl (ro_pick rfl rfl) rfl ?_
  refine ops_ro' rfl (ro_assign rfl) rfl ?_
  refine ops_nil ?_
  refine Then_normal ?_
  refine wp_ret' ?_
  refine' doneS_ret (res1 rfl rfl) ?_ ?_
  rotate_left 1
  exact ⟨rfl, rfl⟩
  exact (SubH.nil _)

end Go.Proofs.Ytbbmhppkhcodfaa
