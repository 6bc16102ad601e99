/-
  A tree grows: Make, New.
-/
import Derived.Test.YtbbmhppkhcodfaaTrX
namespace Go.Proofs.Ytbbmhppkhcodfaa
open Go.Sx
set_option linter.unusedVariables false
set_option linter.unusedSimpArgs false
set_option maxRecDepth 100000
set_option maxHeartbeats 4000000

theorem tree_open {t : Tr} {L : List HProp} {w : World} {F : HProp} (s : sat w (star (St (tree t :: L)) F)) : sat w (star (St (trL t ++ L)) F) := by
  rw [St_cons, tree, ← St_append] at s; exact s
theorem tree_shut {t : Tr} {L : List HProp} {w : World} {F : HProp} (s : sat w (star (St (trL t ++ L)) F)) : sat w (star (St (tree t :: L)) F) := by
  rw [St_cons, tree, ← St_append]; exact s
theorem nds_op {ns : List Nd} {i : Nat} {x : Nd} {L : List HProp} (h : ns[i]? = some x) {w : World} {F : HProp} (s : sat w (star (St (nds ns :: L)) F)) : sat w (star (St (own x.blk (.cells x.cs.toArray 85 (0, 0)) :: rowP x.kp x.kc x.kids :: rowD x.dp x.dc x.data :: nds (ns.eraseIdx i) :: L)) F) := by
  rw [St_cons, nds_open h, nd_parts] at s
  simp only [St_cons, star_assoc] at s ⊢
  exact s
theorem nds_cl {ns : List Nd} {i : Nat} {x y : Nd} {L : List HProp} (h : ns[i]? = some x) {w : World} {F : HProp} (s : sat w (star (St (own y.blk (.cells y.cs.toArray 85 (0, 0)) :: rowP y.kp y.kc y.kids :: rowD y.dp y.dc y.data :: nds (ns.eraseIdx i) :: L)) F)) : sat w (star (St (nds (ns.set i y) :: L)) F) := by
  rw [St_cons, nds_close h, nd_parts]
  simp only [St_cons, star_assoc] at s ⊢
  exact s
theorem turn_me {f : Nd → Nd} (h : ∀ y, (f y).me = y.me) (b : Nat) (ns : List Nd) : (turnB b f ns).map Nd.me = ns.map Nd.me := by
  unfold turnB; rw [List.map_map]
  exact List.map_congr_left fun y _ => by show (if y.blk = b then f y else y).me = y.me; split; exact h y; rfl
theorem made_in {t : Tr} {x : Nd} {nm : List UInt8} {dir : Bool} {b : Nat} {kp : Option Addr} {kc : Nat} : newNd b t.ck t.next x.id dir nm ∈ (made t x nm dir b kp kc).ns := List.mem_append_right _ (List.mem_singleton_self _)
theorem make_close {t : Tr} {x : Nd} {nm : List UInt8} {dir : Bool} {b i : Nat} {kp : Option Addr} {kc : Nat} {L : List HProp} (hb : (t.ns.map Nd.blk).Nodup) (h : t.ns[i]? = some x) {w : World} {F : HProp}
    (s : sat w (star (St (own x.blk (.cells (Nd.cs (heldF kp kc (kpl t.ns x nm) b x)).toArray 85 (0, 0)) :: rowP kp kc (insAt x.kids (kpl t.ns x nm) b) :: rowD x.dp x.dc x.data :: nds ((t.ns ++ [newNd b t.ck t.next x.id dir nm]).eraseIdx i) :: own t.tb (.cells ([.pointer (some ⟨t.rb, 0, none⟩), .map (some t.mb), .int .i64 ((t.next + 1 : Nat) : Int), .int .i64 (t.bytes : Int)] : List Value).toArray 78 (0, 0)) :: own t.mb (mapO ((t.ns ++ [newNd b t.ck t.next x.id dir nm]).map Nd.me) (t.ck + 1)) :: L)) F)) :
    sat w (star (St (tree (made t x nm dir b kp kc) :: L)) F) := by
  have hi := (List.getElem?_eq_some_iff.1 h).1
  have h2 : (t.ns ++ [newNd b t.ck t.next x.id dir nm])[i]? = some x := by rw [List.getElem?_append_left hi]; exact h
  have s1 := nds_cl (y := heldF kp kc (kpl t.ns x nm) b x) h2 s
  rw [List.set_append_left _ _ hi, set_turn hb h] at s1
  have e1 : (t.ns ++ [newNd b t.ck t.next x.id dir nm]).map Nd.me = (made t x nm dir b kp kc).ns.map Nd.me := by
    show _ = (turnB x.blk (heldF kp kc (kpl t.ns x nm) b) t.ns ++ [_]).map Nd.me
    rw [List.map_append, List.map_append, turn_me (f := heldF kp kc (kpl t.ns x nm) b) (fun _ => rfl)]
  rw [e1] at s1
  refine tree_shut (t := made t x nm dir b kp kc) ?_
  have s2 : sat w (star (St (nds (made t x nm dir b kp kc).ns :: own (made t x nm dir b kp kc).tb (.cells (made t x nm dir b kp kc).cs.toArray 78 (0, 0)) :: own (made t x nm dir b kp kc).mb (mapO ((made t x nm dir b kp kc).ns.map Nd.me) (made t x nm dir b kp kc).ck) :: L)) F) := s1
  have hs : SubH (nds (made t x nm dir b kp kc).ns :: own (made t x nm dir b kp kc).tb (.cells (made t x nm dir b kp kc).cs.toArray 78 (0, 0)) :: own (made t x nm dir b kp kc).mb (mapO ((made t x nm dir b kp kc).ns.map Nd.me) (made t x nm dir b kp kc).ck) :: L) (trL (made t x nm dir b kp kc) ++ L) :=
    SubH.cons 1 rfl (SubH.cons 1 rfl (SubH.cons 0 rfl (SubH.refl _)))
  exact hs w F s2
def MakeR (t : Tr) (r : Nd) (p : List (List UInt8)) (dir : Bool) (t' : Tr) (r' : Nd) (i e : Int) : Prop :=
  (t' = t ∧ r' = r ∧ i = 0 ∧ ((p = [] ∧ e = 1) ∨ (p ≠ [] ∧ (∃ x k, holdO t.ns r p = ((some x, k), 0)) ∧ 200 ≤ t.ns.length ∧ e = 13) ∨ (p ≠ [] ∧ holdO t.ns r p = ((none, 0), e) ∧ e ≠ 0))) ∨
  (p ≠ [] ∧ ∃ x, holdO t.ns r p = ((some x, kpl t.ns x (lastN p)), 0) ∧ t.ns.length < 200 ∧ i = t.next ∧ e = 0 ∧ ∃ b kp kc, (∀ y ∈ t.ns, y.blk ≠ b) ∧ t' = made t x (lastN p) dir b kp kc ∧ r' = (if r.blk = x.blk then heldF kp kc (kpl t.ns x (lastN p)) b r else r))
theorem make_spec {V : HProp} {t : Tr} {r : Nd} (hW : Wf t r) (hnx : t.next ≤ 9223372036854775806) (q : Option Addr) (cq : Nat) (p : List (List UInt8)) (hV : Vw V (.slice q p.length cq) p.length (txs p)) (hcq : p.length ≤ cq) (hl : p.length ≤ 100000) (hln : (lastN p).length ≤ 9223372036854775807) (dir : Bool) :
    Tri Try.prog 11 [t.v, .slice q p.length cq, .bool dir] [tree t, V] (fun v H' => ∃ t' r' i e, v = .tuple #[.int .i64 i, .int .i64 e] ∧ MakeR t r p dir t' r' i e ∧ Wf t' r' ∧ H' = [tree t', V]) := by
  by_cases hp : p = []
  · have hp0 : p.length = 0 := by rw [hp]; rfl
    refine tri_of_wpS Try.func11 rfl Try.ntmps11 (by simp) ?_
    refine wp_seq' ?_
    refine wp_region' ?_
    refine ops_ro' rfl (ro_assign rfl) rfl ?_
    refine ops_ro' rfl (ro_assign rfl) rfl ?_
    refine ops_nil ?_
    refine Then_normal ?_
    refine wp_seq' ?_
    refine wp_seq' ?_
    refine wp_region' ?_
    refine ops_ro' rfl (ro_move rfl) rfl ?_
    refine ops_ro' rfl (ro_sliceLen Try.underlying29 rfl) rfl ?_
    refine ops_ro' rfl (ro_eql rfl rfl (decide_eq_true (by omega))) rfl ?_
    refine ops_nil ?_
    refine Then_normal ?_
    refine wp_condT rfl ?_
    refine wp_seq' ?_
    refine wp_region' ?_
    refine ops_ro' rfl (ro_assign rfl) rfl ?_
    refine ops_ro' rfl (ro_assign rfl) rfl ?_
    refine ops_nil ?_
    refine Then_normal ?_
    refine wp_ret' ?_
    refine Then_ret ?_
    refine' doneS_ret (res2 rfl rfl rfl) ?_ ?_
    rotate_left 1
    exact ⟨t, r, 0, 1, rfl, .inl ⟨rfl, rfl, rfl, .inl ⟨hp, rfl⟩⟩, hW, rfl⟩
    exact SubH.refl _
  · have hp1 := List.length_pos_iff.2 hp
    have hlast := lastN_at hp
    have hfr : ∀ y ∈ t.ns.map Nd.me, y.k ≠ (t.next : Int) := fun y hy => by
      obtain ⟨z, hz, rfl⟩ := List.mem_map.1 hy
      have := hW.lt z hz
      show (z.id : Int) ≠ _; omega
    refine tri_know (fun w F s => vw_ptr (Vw.pick (H := [tree t, V]) 1 rfl hV) s (by omega)) ?_
    rintro ⟨b0, o0, rfl⟩
    rcases holdO_bad (ns := t.ns) (r := r) (p := p) with ⟨e, hh, he⟩ | ⟨x, k, hh⟩
    · skip
      refine tri_of_wpS Try.func11 rfl Try.ntmps11 (by simp) ?_
      refine wp_seq' ?_
      refine wp_region' ?_
      refine ops_ro' rfl (ro_assign rfl) rfl ?_
      refine ops_ro' rfl (ro_assign rfl) rfl ?_
      refine ops_nil ?_
      refine Then_normal ?_
      refine wp_seq' ?_
      refine wp_seq' ?_
      refine wp_region' ?_
      refine ops_ro' rfl (ro_move rfl) rfl ?_
      refine ops_ro' rfl (ro_sliceLen Try.underlying29 rfl) rfl ?_
      refine ops_ro' rfl (ro_eql rfl rfl (decide_eq_false (by omega))) rfl ?_
      refine ops_nil ?_
      refine Then_normal ?_
      refine wp_condF rfl ?_
      refine wp_skip' ?_
      refine Then_normal ?_
      refine wp_seq' ?_
      refine wp_region' ?_
      refine ops_ro' rfl (ro_move rfl) rfl ?_
      refine ops_ro' rfl (ro_move rfl) rfl ?_
      refine ops_eff' rfl (eff_callM (Pre := []) Try.call36 rfl rfl (Split.nil _) (holder_spec (Tv.pick 0 rfl (tree_tv t)) hW _ cq p (by first | exact (Vw.pick 0 rfl hV) | exact (Vw.pick 1 rfl hV) | exact (Vw.pick 2 rfl hV) | exact Vw.pick 0 rfl Vw.row | exact Vw.pick 1 rfl Vw.row | exact Vw.pick 2 rfl Vw.row | exact Vw.nil _ | exact Vw.empty _ _) hcq hl hp hln)) rfl ?_
      rintro _ H' ⟨_, ⟨rfl, rfl⟩, hH⟩
      simp only [List.cons_append, List.nil_append, List.eraseIdx_cons_zero, List.eraseIdx_cons_succ, List.set_cons_zero, List.set_cons_succ] at hH
      subst hH
      rw [hh]
      dsimp only [ptrO, Option.map]
      refine ops_ro' rfl (ro_move rfl) rfl ?_
      refine ops_ro' rfl (ro_extract rfl rfl) rfl ?_
      refine ops_ro' rfl (ro_extract rfl rfl) rfl ?_
      refine ops_ro' rfl (ro_extract rfl rfl) rfl ?_
      refine ops_ro' rfl (ro_assign rfl) rfl ?_
      refine ops_ro' rfl (ro_assign rfl) rfl ?_
      refine ops_ro' rfl (ro_assign rfl) rfl ?_
      refine ops_nil ?_
      refine Then_normal ?_
      refine wp_seq' ?_
      refine wp_block' ?_
      refine wp_seq' ?_
      refine wp_region' ?_
      refine ops_ro' rfl (ro_move rfl) rfl ?_
      refine ops_ro' rfl (ro_neq rfl rfl (decide_eq_true (by omega))) rfl ?_
      refine ops_ro' rfl (ro_assign rfl) rfl ?_
      refine ops_nil ?_
      refine Then_normal ?_
      refine wp_condT rfl ?_
      refine wp_seq' ?_
      refine wp_region' ?_
      refine ops_ro' rfl (ro_move rfl) rfl ?_
      refine ops_ro' rfl (ro_assign rfl) rfl ?_
      refine ops_ro' rfl (ro_assign rfl) rfl ?_
      refine ops_nil ?_
      refine Then_normal ?_
      refine wp_ret' ?_
      refine InBlock_ret ?_
      refine Then_ret ?_
      refine' doneS_ret (res2 rfl rfl rfl) ?_ ?_
      rotate_left 1
      exact ⟨t, r, 0, e, rfl, .inl ⟨rfl, rfl, rfl, .inr (.inr ⟨hp, hh, he⟩)⟩, hW, rfl⟩
      exact SubH.refl _
    · obtain ⟨h1, hdir, hno, rfl, hok, _⟩ := holdO_inv hh
      have hx := fnd_mem hW.root h1
      obtain ⟨ix, hix⟩ := List.mem_iff_getElem?.1 hx
      have hkl : kpl t.ns x (lastN p) ≤ x.kids.length := by have := plc_le (x.kids.map (nmB t.ns)) (lastN p); rwa [List.length_map] at this
      refine tri_of_wpS Try.func11 rfl Try.ntmps11 (by simp) ?_
      refine wp_seq' ?_
      refine wp_region' ?_
      refine ops_ro' rfl (ro_assign rfl) rfl ?_
      refine ops_ro' rfl (ro_assign rfl) rfl ?_
      refine ops_nil ?_
      refine Then_normal ?_
      refine wp_seq' ?_
      refine wp_seq' ?_
      refine wp_region' ?_
      refine ops_ro' rfl (ro_move rfl) rfl ?_
      refine ops_ro' rfl (ro_sliceLen Try.underlying29 rfl) rfl ?_
      refine ops_ro' rfl (ro_eql rfl rfl (decide_eq_false (by omega))) rfl ?_
      refine ops_nil ?_
      refine Then_normal ?_
      refine wp_condF rfl ?_
      refine wp_skip' ?_
      refine Then_normal ?_
      refine wp_seq' ?_
      refine wp_region' ?_
      refine ops_ro' rfl (ro_move rfl) rfl ?_
      refine ops_ro' rfl (ro_move rfl) rfl ?_
      refine ops_eff' rfl (eff_callM (Pre := []) Try.call36 rfl rfl (Split.nil _) (holder_spec (Tv.pick 0 rfl (tree_tv t)) hW _ cq p (by first | exact (Vw.pick 0 rfl hV) | exact (Vw.pick 1 rfl hV) | exact (Vw.pick 2 rfl hV) | exact (Vw.pick 3 rfl hV) | exact (Vw.pick 4 rfl hV) | exact (Vw.pick 5 rfl hV) | exact (Vw.pick 6 rfl hV) | exact (Vw.pick 7 rfl hV) | exact Vw.pick 0 rfl Vw.row | exact Vw.pick 1 rfl Vw.row | exact Vw.pick 2 rfl Vw.row | exact Vw.pick 3 rfl Vw.row | exact Vw.pick 4 rfl Vw.row | exact Vw.pick 5 rfl Vw.row | exact Vw.pick 6 rfl Vw.row | exact Vw.pick 7 rfl Vw.row | exact Vw.nil _ | exact Vw.empty _ _) hcq hl hp hln)) rfl ?_
      rintro _ H' ⟨_, ⟨rfl, rfl⟩, hH⟩
      simp only [List.cons_append, List.nil_append, List.eraseIdx_cons_zero, List.eraseIdx_cons_succ, List.set_cons_zero, List.set_cons_succ] at hH
      subst hH
      rw [hh]
      dsimp only [ptrO, Option.map]
      refine ops_ro' rfl (ro_move rfl) rfl ?_
      refine ops_ro' rfl (ro_extract rfl rfl) rfl ?_
      refine ops_ro' rfl (ro_extract rfl rfl) rfl ?_
      refine ops_ro' rfl (ro_extract rfl rfl) rfl ?_
      refine ops_ro' rfl (ro_assign rfl) rfl ?_
      refine ops_ro' rfl (ro_assign rfl) rfl ?_
      refine ops_ro' rfl (ro_assign rfl) rfl ?_
      refine ops_nil ?_
      refine Then_normal ?_
      refine wp_seq' ?_
      refine wp_block' ?_
      refine wp_seq' ?_
      refine wp_region' ?_
      refine ops_ro' rfl (ro_move rfl) rfl ?_
      refine ops_ro' rfl (ro_neq rfl rfl (decide_eq_false (by omega))) rfl ?_
      refine ops_ro' rfl (ro_assign rfl) rfl ?_
      refine ops_nil ?_
      refine Then_normal ?_
      refine wp_condF rfl ?_
      refine wp_seq' ?_
      refine wp_region' ?_
      refine ops_ro' rfl (ro_move rfl) rfl ?_
      refine ops_ro' rfl (ro_nilCheck rfl) rfl ?_
      refine ops_ro' rfl (ro_fieldAddr fa78_1 rfl) rfl ?_
      refine ops_ro' rfl (ro_load sc75 rfl (Rd.pick 0 rfl (((tree_tv t).cs 1 _ rfl)))) rfl ?_
      refine ops_ro' rfl (ro_mapLen Try.underlying75 rfl (Mp.pick 0 rfl (tree_tv t).mp)) rfl ?_
      rw [List.length_map]
      refine ops_ro' rfl (ro_geq rfl rfl rfl) rfl ?_
      refine ops_ro' rfl (ro_assign rfl) rfl ?_
      refine ops_nil ?_
      refine Then_normal ?_
      refine wp_cond' rfl (fun hc26 => ?_) (fun hc26 => ?_)
      · replace hc26 := of_decide_eq_true hc26
        refine wp_seq' ?_
        refine wp_region' ?_
        refine ops_ro' rfl (ro_assign rfl) rfl ?_
        refine ops_ro' rfl (ro_assign rfl) rfl ?_
        refine ops_nil ?_
        refine Then_normal ?_
        refine wp_ret' ?_
        refine InBlock_ret ?_
        refine Then_ret ?_
        refine' doneS_ret (res2 rfl rfl rfl) ?_ ?_
        rotate_left 1
        exact ⟨t, r, 0, 13, rfl, .inl ⟨rfl, rfl, rfl, .inr (.inl ⟨hp, ⟨x, _, hh⟩, by omega, rfl⟩)⟩, hW, rfl⟩
        exact SubH.refl _
      · replace hc26 := of_decide_eq_false hc26
        refine wp_skip' ?_
        refine InBlock_normal ?_
        refine Then_normal ?_
        refine wp_seq' ?_
        refine wp_heap (H' := trL t ++ [V]) (fun w F s => tree_open s) ?_
        simp only [trL, List.cons_append, List.nil_append]
        refine wp_region' ?_
        refine ops_ro' rfl (ro_move rfl) rfl ?_
        refine ops_ro' rfl (ro_move rfl) rfl ?_
        refine ops_ro' rfl (ro_move rfl) rfl ?_
        refine ops_ro' rfl (ro_sliceLen Try.underlying29 rfl) rfl ?_
        refine ops_ro' rfl (ro_sub rfl rfl (wrap_dec (by omega) (by omega))) rfl ?_
        refine ops_ro' rfl (ro_indexSlice sl29 rfl rfl rfl (by omega)) rfl ?_
        refine ops_ro' rfl (ro_load sc9 rfl (Rd.pick 3 rfl (Rd.elem (j := 0) (vw_rdn hV) Tx.len hlast rfl))) rfl ?_
        refine ops_ro' rfl (ro_move rfl) rfl ?_
        refine ops_eff' rfl (eff_call Try.call35 rfl rfl (by repeat (first | exact Split.nil _ | apply Split.cons 0 rfl | apply Split.cons 1 rfl | apply Split.cons 2 rfl | apply Split.cons 3 rfl | apply Split.cons 4 rfl | apply Split.cons 5 rfl | apply Split.cons 6 rfl | apply Split.cons 7 rfl | apply Split.cons 8 rfl | apply Split.cons 9 rfl | apply Split.cons 10 rfl | apply Split.cons 11 rfl)) (made_spec t.tb t.mb t.ck t.next t.bytes (.pointer (some ⟨t.rb, 0, none⟩)) rfl t.ns (lastN p) dir (x.id : Int) hnx hfr)) rfl ?_
        rintro _ H' ⟨_, ⟨b41, rfl, hb41, rfl⟩, hH⟩
        simp only [List.cons_append, List.nil_append, List.eraseIdx_cons_zero, List.eraseIdx_cons_succ, List.set_cons_zero, List.set_cons_succ] at hH
        subst hH
        refine ops_ro' rfl (ro_assign rfl) rfl ?_
        refine ops_nil ?_
        refine Then_normal ?_
        refine wp_seq' ?_
        have hix2 : (t.ns ++ [newNd b41 t.ck t.next x.id dir (lastN p)])[ix]? = some x := by rw [List.getElem?_append_left (List.getElem?_eq_some_iff.1 hix).1]; exact hix
        refine wp_sub' (L := [nds (t.ns ++ [newNd b41 t.ck t.next x.id dir (lastN p)]), own t.tb (.cells ([.pointer (some ⟨t.rb, 0, none⟩), .map (some t.mb), .int .i64 ((t.next + 1 : Nat) : Int), .int .i64 (t.bytes : Int)] : List Value).toArray 78 (0, 0)), own t.mb (mapO ((t.ns ++ [newNd b41 t.ck t.next x.id dir (lastN p)]).map Nd.me) (t.ck + 1)), V]) (by repeat (first | exact SubH.nil _ | refine SubH.cons 0 rfl ?_ | refine SubH.cons 1 rfl ?_ | refine SubH.cons 2 rfl ?_ | refine SubH.cons 3 rfl ?_ | refine SubH.cons 4 rfl ?_ | refine SubH.cons 5 rfl ?_ | refine SubH.cons 6 rfl ?_ | refine SubH.cons 7 rfl ?_ | refine SubH.cons 8 rfl ?_ | refine SubH.cons 9 rfl ?_ | refine SubH.cons 10 rfl ?_ | refine SubH.cons 11 rfl ?_ | refine SubH.cons 12 rfl ?_ | refine SubH.cons 13 rfl ?_ | refine SubH.rown ?_)) ?_
        refine wp_heap (fun w F s => nds_op hix2 s) ?_
        refine wp_region' ?_
        refine ops_ro' rfl (ro_move rfl) rfl ?_
        refine ops_ro' rfl (ro_move rfl) rfl ?_
        refine ops_ro' rfl (ro_nilCheck rfl) rfl ?_
        refine ops_ro' rfl (ro_fieldAddr fa85_3 rfl) rfl ?_
        refine ops_ro' rfl (ro_load sc82 rfl (Rd.pick 0 rfl (Rd.own rfl))) rfl ?_
        refine ops_ro' rfl (ro_move rfl) rfl ?_
        refine ops_ro' rfl (ro_move rfl) rfl ?_
        refine ops_eff' rfl (eff_buildSlice rfl (sbld (cs := [_]) [(.pointer none)] sl82 (by decide) (by kernel_rfl) rfl)) rfl ?_
        rintro _ _ ⟨b49, rfl, rfl⟩
        refine ops_eff' rfl (eff_call Try.call37 rfl rfl (by repeat (first | exact Split.nil _ | apply Split.cons 0 rfl | apply Split.cons 1 rfl | apply Split.cons 2 rfl | apply Split.cons 3 rfl | apply Split.cons 4 rfl | apply Split.cons 5 rfl | apply Split.cons 6 rfl | apply Split.cons 7 rfl | apply Split.cons 8 rfl | apply Split.cons 9 rfl | apply Split.cons 10 rfl | apply Split.cons 11 rfl)) (ins_spec x.kp x.kc x.kids (hW.kd.few x hx) (kpl t.ns x (lastN p)) hkl b41 b49)) rfl ?_
        rintro _ H' ⟨_, ⟨p50, c50, rfl, rfl⟩, hH⟩
        simp only [List.cons_append, List.nil_append, List.eraseIdx_cons_zero, List.eraseIdx_cons_succ, List.set_cons_zero, List.set_cons_succ] at hH
        subst hH
        refine ops_ro' rfl (ro_nilCheck rfl) rfl ?_
        refine ops_ro' rfl (ro_fieldAddr fa85_3 rfl) rfl ?_
        refine ops_eff0 rfl (eff_store 1 sc82 rfl rfl rfl rfl (Nat.le_of_ble_eq_true rfl) (warm_zero _)) rfl ?_
        rintro _ _ rfl
        refine ops_nil ?_
        refine Then_normal ?_
        refine wp_seq' ?_
        refine wp_sub' (L := [own x.blk (.cells (Nd.cs (heldF p50 c50 (kpl t.ns x (lastN p)) b41 x)).toArray 85 (0, 0)), rowP p50 c50 (insAt x.kids (kpl t.ns x (lastN p)) b41), rowD x.dp x.dc x.data, nds ((t.ns ++ [newNd b41 t.ck t.next x.id dir (lastN p)]).eraseIdx ix), own t.tb (.cells ([.pointer (some ⟨t.rb, 0, none⟩), .map (some t.mb), .int .i64 ((t.next + 1 : Nat) : Int), .int .i64 (t.bytes : Int)] : List Value).toArray 78 (0, 0)), own t.mb (mapO ((t.ns ++ [newNd b41 t.ck t.next x.id dir (lastN p)]).map Nd.me) (t.ck + 1)), V]) (by repeat (first | exact SubH.nil _ | refine SubH.cons 0 rfl ?_ | refine SubH.cons 1 rfl ?_ | refine SubH.cons 2 rfl ?_ | refine SubH.cons 3 rfl ?_ | refine SubH.cons 4 rfl ?_ | refine SubH.cons 5 rfl ?_ | refine SubH.cons 6 rfl ?_ | refine SubH.cons 7 rfl ?_ | refine SubH.cons 8 rfl ?_ | refine SubH.cons 9 rfl ?_ | refine SubH.cons 10 rfl ?_ | refine SubH.cons 11 rfl ?_ | refine SubH.cons 12 rfl ?_ | refine SubH.cons 13 rfl ?_ | refine SubH.rown ?_)) ?_
        refine wp_heap (fun w F s => make_close (kp := p50) (kc := c50) hW.kd.blks hix s) ?_
        refine wp_region' ?_
        refine ops_ro' rfl (ro_move rfl) rfl ?_
        refine ops_ro' rfl (ro_nilCheck rfl) rfl ?_
        refine ops_ro' rfl (ro_fieldAddr fa85_0 rfl) rfl ?_
        refine ops_ro' rfl (ro_load sc3 rfl (Rd.pick 0 rfl (((tree_tv (made t x (lastN p) dir b41 p50 c50)).nd (newNd b41 t.ck t.next x.id dir (lastN p)) made_in 0 _ rfl)))) rfl ?_
        refine ops_ro' rfl (ro_assign rfl) rfl ?_
        refine ops_ro' rfl (ro_assign rfl) rfl ?_
        refine ops_nil ?_
        refine Then_normal ?_
        refine wp_ret' ?_
        refine' doneS_ret (res2 rfl rfl rfl) ?_ ?_
        rotate_left 1
        exact ⟨(made t x (lastN p) dir b41 p50 c50), _, (t.next : Int), 0, rfl, .inr ⟨hp, x, hh, by omega, rfl, rfl, b41, p50, c50, hb41, rfl, rfl⟩, wf_made hW hx hdir hno hok (by omega) hb41, rfl⟩
        exact SubH.refl _

end Go.Proofs.Ytbbmhppkhcodfaa
