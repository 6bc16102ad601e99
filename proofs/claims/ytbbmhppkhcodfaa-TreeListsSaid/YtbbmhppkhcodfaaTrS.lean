/-
  TreeLists.
-/
import Derived.Test.YtbbmhppkhcodfaaTrNw
import Derived.Test.YtbbmhppkhcodfaaOpenTr
import Derived.Test.YtbbmhppkhcodfaaBook
import Derived.Test.YtbbmhppkhcodfaaSxFork
namespace Go.Proofs.Ytbbmhppkhcodfaa
open Go.Sx
set_option linter.unusedVariables false
set_option linter.unusedSimpArgs false
set_option maxRecDepth 100000
set_option maxHeartbeats 4000000

theorem dp_new {t : Tr} {r : Nd} (h : t.ns = [r]) (hW : Wf t r) : Dp t.ns (fun _ => 0) := by
  refine ⟨fun x hx y hy hp => ?_, rfl, fun _ _ => Nat.zero_le _⟩
  rw [h, List.mem_singleton] at hx hy
  rw [hy, hx, hW.rpar] at hp; omega
theorem dp_turn {f : Nd → Nd} (h : Keeps f) (b : Nat) {ns : List Nd} {d : Nat → Nat} (hD : Dp ns d) : Dp (turnB b f ns) d := by
  refine ⟨fun x hx y hy hp => ?_, hD.z, fun x hx => ?_⟩
  · obtain ⟨u, hu, rfl⟩ := turn_mem hx
    obtain ⟨v, hv, rfl⟩ := turn_mem hy
    rw [(turn_eq h v).2.2.1, (turn_eq h u).2.1] at hp
    rw [(turn_eq h v).2.1, (turn_eq h u).2.1]
    exact hD.up u hu v hv hp
  · obtain ⟨u, hu, rfl⟩ := turn_mem hx
    rw [(turn_eq h u).2.1]; exact hD.le u hu
theorem dp_made {t : Tr} {r x : Nd} (hW : Wf t r) {d : Nat → Nat} (hD : Dp t.ns d) (hx : x ∈ t.ns) (hdx : d x.id ≤ 4) (nm : List UInt8) (dir : Bool) (b : Nat) (kp : Option Addr) (kc : Nat) :
    Dp (made t x nm dir b kp kc).ns (fun k => if k = t.next then d x.id + 1 else d k) := by
  have hF := heldF_keeps kp kc (kpl t.ns x nm) b
  have h1 := dp_turn hF x.blk hD
  have hlt : ∀ u ∈ turnB x.blk (heldF kp kc (kpl t.ns x nm) b) t.ns, u.id < t.next := fun u hu => by
    obtain ⟨v, hv, rfl⟩ := turn_mem hu
    rw [(turn_eq hF v).2.1]; exact hW.lt v hv
  have hpl : ∀ u ∈ turnB x.blk (heldF kp kc (kpl t.ns x nm) b) t.ns, u.par < (t.next : Int) := fun u hu => by
    obtain ⟨v, hv, rfl⟩ := turn_mem hu
    rw [(turn_eq hF v).2.2.1]; exact hW.parlt hv
  have hxl := hW.lt x hx
  refine ⟨fun u hu v hv hp => ?_, ?_, fun u hu => ?_⟩
  · rcases List.mem_append.1 hu with hu | hu
    · have hul := hlt u hu
      rcases List.mem_append.1 hv with hv | hv
      · have hvl := hlt v hv
        rw [if_neg (by omega), if_neg (by omega)]; exact h1.up u hu v hv hp
      · rw [List.mem_singleton] at hv
        rw [hv] at hp ⊢
        have hp : (x.id : Int) = u.id := hp
        have e : x.id = u.id := by omega
        show (if t.next = t.next then _ else _) = _
        rw [if_pos rfl, if_neg (by omega), e]
    · rw [List.mem_singleton] at hu
      rw [hu] at hp
      have hp : v.par = (t.next : Int) := hp
      rcases List.mem_append.1 hv with hv | hv
      · have := hpl v hv; omega
      · rw [List.mem_singleton] at hv
        rw [hv] at hp
        have hp : (x.id : Int) = t.next := hp
        omega
  · show (if 0 = t.next then _ else d 0) = 0
    rw [if_neg (by omega)]; exact hD.z
  · rcases List.mem_append.1 hu with hu | hu
    · have := hlt u hu
      rw [if_neg (by omega)]; exact h1.le u hu
    · rw [List.mem_singleton] at hu
      rw [hu]
      show (if t.next = t.next then _ else _) ≤ 5
      rw [if_pos rfl]; omega
theorem make_dp {t : Tr} {r : Nd} {p : List (List UInt8)} {dir : Bool} {t' : Tr} {r' : Nd} {i e : Int} (hW : Wf t r) {d : Nat → Nat} (hD : Dp t.ns d) (hR : MakeR t r p dir t' r' i e) (hp : p.length ≤ 5) : ∃ d', Dp t'.ns d' ∧ t'.next ≤ t.next + 1 ∧ t'.tb = t.tb := by
  rcases hR with ⟨rfl, _⟩ | ⟨_, x, hh, _, _, _, b, kp, kc, _, rfl, _⟩
  · exact ⟨d, hD, by omega, rfl⟩
  · have h1 := (holdO_inv hh).1
    have hx := fnd_mem hW.root h1
    have h2 := fnd_deep hD hW.root h1
    rw [hW.rid, hD.z, List.length_take] at h2
    exact ⟨_, dp_made hW hD hx (by omega) _ _ _ _ _, Nat.le_refl _, rfl⟩
theorem write_wf {t : Tr} {r : Nd} {id : Int} {k : Nat} {b : List UInt8} {t' : Tr} {e : Int} (hW : Wf t r) (hR : WriteR t id k b t' e) : Wf t' r ∧ t'.next = t.next ∧ t'.tb = t.tb ∧ (t' = t ∨ ∃ x bx c l, t' = dataT t x bx c l) := by
  rcases hR with ⟨_, _, rfl⟩ | ⟨x, hf, h⟩
  · exact ⟨hW, rfl, rfl, .inl rfl⟩
  · rcases h with ⟨_, _, rfl⟩ | ⟨_, _, _, rfl⟩ | ⟨h1, h2, ⟨_, _, rfl⟩ | ⟨h3, _, b0, rfl⟩⟩
    · exact ⟨hW, rfl, rfl, .inl rfl⟩
    · exact ⟨hW, rfl, rfl, .inl rfl⟩
    · exact ⟨hW, rfl, rfl, .inl rfl⟩
    · obtain ⟨hb, hd⟩ : byId t.ns id = some x ∧ x.dir = false := by
        rcases fileO_cases (byId t.ns id) with ⟨e, h4, _⟩ | ⟨y, h4, h5, h6⟩
        · rw [h4] at hf; simp at hf
        · rw [h6] at hf
          have e1 : y = x := by have := congrArg Prod.fst hf; simpa using this
          subst e1; exact ⟨h4, h5⟩
      have hx := (byId_some hb).1
      have hl : (wr2 (szd x.data (max (k + b.length) x.data.length)) k b).length = max (k + b.length) x.data.length := by rw [wr2_len (by rw [szd_len]; omega), szd_len]
      refine ⟨wf_data hW hx hd ?_, rfl, rfl, .inr ⟨x, _, _, _, rfl⟩⟩
      unfold szE at h3
      rw [hl]
      split at h3
      · omega
      · split at h3
        · omega
        · omega
theorem write_dp {t : Tr} {r : Nd} {id : Int} {k : Nat} {b : List UInt8} {t' : Tr} {e : Int} (hW : Wf t r) {d : Nat → Nat} (hD : Dp t.ns d) (hR : WriteR t id k b t' e) : Wf t' r ∧ Dp t'.ns d ∧ t'.next = t.next ∧ t'.tb = t.tb := by
  obtain ⟨h1, h2, h3, rfl | ⟨x, bx, c, l, rfl⟩⟩ := write_wf hW hR
  · exact ⟨h1, hD, h2, h3⟩
  · exact ⟨h1, dp_turn (datF_keeps _ _ _) _ hD, h2, h3⟩
theorem tri_arg {f : FuncId} {t : Tr} {tb : Nat} {args : List Value} {H : List HProp} {Ψ : Value → List HProp → Prop} (h : t.tb = tb) (hT : Tri Try.prog f (t.v :: args) H Ψ) : Tri Try.prog f (.pointer (some ⟨tb, 0, none⟩) :: args) H Ψ := by rw [← h]; exact hT
theorem treelists_run (V : HProp) (q : Option Addr) (cq : Nat) (l : List Av) (hL : Vw V (.slice q l.length cq) l.length (flat Av.cs l)) (hl : l.length ≤ 9223372036854775807) (hA : ∀ x ∈ l, x.Ok V) :
    Tri Try.prog 4 [.slice q l.length cq] [V] (fun v H' => v = .bool true ∧ H' = [V]) := by
  refine tri_of_wpS Try.func4 rfl Try.ntmps4 (by simp) ?_
  refine wp_seq' ?_
  refine wp_region' ?_
  refine ops_ro' rfl (ro_assign rfl) rfl ?_
  refine ops_nil ?_
  refine Then_normal ?_
  refine wp_seq' ?_
  refine wp_region' ?_
  refine ops_eff' rfl (eff_call Try.call10 rfl rfl (by repeat (first | exact Split.nil _ | apply Split.cons 0 rfl | apply Split.cons 1 rfl | apply Split.cons 2 rfl | apply Split.cons 3 rfl | apply Split.cons 4 rfl | apply Split.cons 5 rfl | apply Split.cons 6 rfl | apply Split.cons 7 rfl | apply Split.cons 8 rfl | apply Split.cons 9 rfl | apply Split.cons 10 rfl | apply Split.cons 11 rfl)) (new_spec)) rfl ?_
  rintro _ H' ⟨_, ⟨t0, r0, rfl, hn1, hn2, hW0, rfl⟩, hH⟩
  simp only [List.cons_append, List.nil_append, List.eraseIdx_cons_zero, List.eraseIdx_cons_succ, List.set_cons_zero, List.set_cons_succ] at hH
  subst hH
  have hD0 : Dp t0.ns (fun _ => 0) := dp_new hn1 hW0
  obtain ⟨tb, htb0⟩ : ∃ tb, tb = t0.tb := ⟨_, rfl⟩
  rw [show Tr.v t0 = .pointer (some ⟨tb, 0, none⟩) from by rw [Tr.v, htb0]]
  refine ops_ro' rfl (ro_assign rfl) rfl ?_
  refine ops_nil ?_
  refine Then_normal ?_
  refine wp_seq' ?_
  refine wp_seq' ?_
  refine wp_region' ?_
  refine ops_ro' rfl (ro_move rfl) rfl ?_
  refine ops_ro' rfl (ro_ptrEqlNil Try.underlying24 rfl rfl rfl) rfl ?_
  refine ops_nil ?_
  refine Then_normal ?_
  refine wp_condF rfl ?_
  refine wp_skip' ?_
  refine Then_normal ?_
  refine wp_seq' ?_
  refine wp_seq' ?_
  refine wp_region' ?_
  refine ops_ro' rfl (ro_assign rfl) rfl ?_
  refine ops_nil ?_
  refine Then_normal ?_
  refine wp_block' ?_
  refine wp_loopK 5 (fun m Δ LL => ∃ (i : Nat) (t : Tr) (r : Nd) (d : Nat → Nat), (i + m = l.length ∧ t.tb = tb ∧ t.next ≤ i + 1 ∧ Wf t r ∧ Dp t.ns d) ∧ Δ = [(4, .int .i64 (i : Nat))] ∧ LL = [tree t, V]) (m := l.length) (Has.cons (k := 0) rfl (Has.cons (k := 3) rfl (Has.nil _))) (kept ⟨0, t0, r0, fun _ => 0, ⟨by omega, htb0.symm, by omega, hW0, hD0⟩, rfl, rfl⟩ (by repeat (first | exact Has.nil _ | refine Has.cons rfl ?_)) (by repeat (first | exact Has.nil _ | refine Has.cons rfl ?_)) (by repeat (first | exact SubH.nil _ | refine SubH.cons 0 rfl ?_ | refine SubH.cons 1 rfl ?_ | refine SubH.cons 2 rfl ?_ | refine SubH.cons 3 rfl ?_ | refine SubH.cons 4 rfl ?_ | refine SubH.cons 5 rfl ?_ | refine SubH.cons 6 rfl ?_ | refine SubH.cons 7 rfl ?_ | refine SubH.cons 8 rfl ?_ | refine SubH.cons 9 rfl ?_ | refine SubH.cons 10 rfl ?_ | refine SubH.cons 11 rfl ?_ | refine SubH.cons 12 rfl ?_ | refine SubH.cons 13 rfl ?_ | refine SubH.rown ?_))) ?_
  rintro m Δ LL ⟨i, t, r, d, ⟨hm, htb, hnx, hW, hD⟩, rfl, rfl⟩
  simp only [List.cons_append, List.nil_append]
  refine wp_seq' ?_
  refine wp_seq' ?_
  refine wp_region' ?_
  refine ops_ro' rfl (ro_move rfl) rfl ?_
  refine ops_ro' rfl (ro_move rfl) rfl ?_
  refine ops_ro' rfl (ro_sliceLen Try.underlying45 rfl) rfl ?_
  refine ops_ro' rfl (ro_lss rfl rfl rfl) rfl ?_
  refine ops_split rfl rfl rfl (fun hg16 => ?_) (fun hg16 => ?_)
  · replace hg16 := of_decide_eq_true hg16
    have hi : i < l.length := by omega
    refine ops_ro' rfl (ro_move rfl) rfl ?_
    refine ops_ro' rfl (ro_lss rfl rfl rfl) rfl ?_
    refine ops_ro' rfl (ro_pick rfl rfl) rfl ?_
    refine ops_nil ?_
    refine Then_normal ?_
    refine wp_cond' rfl (fun hc19 => ?_) (fun hc19 => ?_)
    · replace hc19 := of_decide_eq_true hc19
      refine wp_skip' ?_
      refine Then_normal ?_
      refine wp_seq' ?_
      refine wp_block' ?_
      refine wp_cutK 1008 (fun Δ LL => ∃ (b5 : Nat) (q5 : Ap) (x : Av), (x.Ok V ∧ Vw V (.slice q5.bp (shortA x.c).b.length q5.bc) (shortA x.c).b.length (cel (shortA x.c).b) ∧ (shortA x.c).b.length ≤ q5.bc) ∧ Δ = [(5, .pointer (some ⟨b5, 0, none⟩))] ∧ LL = [own b5 (.cells ((shortA x.c).cs q5).toArray 47 (0, 0)), row 9 1 (.slice q5.pp ((shortA x.c).p).length q5.pc) ((shortA x.c).p).length (txs ((shortA x.c).p)), tree t, V]) (Has.cons (k := 0) rfl (Has.cons (k := 3) rfl (Has.cons (k := 4) rfl (Has.nil _)))) ?_ ?_
      · have hi : i < l.length := by omega
        obtain ⟨x, hx⟩ : ∃ x, l[i]? = some x := ⟨_, List.getElem?_eq_getElem hi⟩
        have hok := hA x (List.mem_of_getElem? hx)
        refine wp_know (fun w F s => vw_ptr (Vw.pick (H := [_, V]) 1 rfl hL) s (by omega)) ?_
        rintro ⟨b1, o1, rfl⟩
        refine wp_region' ?_
        refine ops_ro' rfl (ro_move rfl) rfl ?_
        refine ops_ro' rfl (ro_move rfl) rfl ?_
        refine ops_ro' rfl (ro_indexSlice sl45 rfl rfl rfl (by omega)) rfl ?_
        refine ops_ro' rfl (ro_loadA ag47 rfl (RdN.of_pick 1 rfl (RdN.elem (vw_rdn hL) Av.len hx)) rfl) rfl ?_
        refine ops_eff' rfl (eff_call Try.call19 rfl rfl (by repeat (first | exact Split.nil _ | apply Split.cons 0 rfl | apply Split.cons 1 rfl | apply Split.cons 2 rfl | apply Split.cons 3 rfl | apply Split.cons 4 rfl | apply Split.cons 5 rfl | apply Split.cons 6 rfl | apply Split.cons 7 rfl | apply Split.cons 8 rfl | apply Split.cons 9 rfl | apply Split.cons 10 rfl | apply Split.cons 11 rfl)) (short15_spec V x.c x.q hok)) rfl ?_
        rintro _ H' ⟨_, ⟨q5, rfl, hb5, hbc5, rfl⟩, hH⟩
        simp only [List.cons_append, List.nil_append, List.eraseIdx_cons_zero, List.eraseIdx_cons_succ, List.set_cons_zero, List.set_cons_succ] at hH
        subst hH
        refine ops_eff' rfl (eff_alloc z47) rfl ?_
        rintro _ _ ⟨b5, rfl, rfl⟩
        refine ops_eff0 rfl (eff_storeA 0 ag47 rfl rfl rfl rfl rfl (Nat.le_of_ble_eq_true rfl) (warm_zero _)) rfl ?_
        rintro _ _ rfl
        simp only [List.set_cons_zero, List.set_cons_succ]
        refine ops_nil ?_
        refine Then_normal ?_
        refine over_cut (kept ⟨b5, q5, x, ⟨hok, hb5, hbc5⟩, rfl, rfl⟩ ?_ ?_ ?_)
        · exact (by repeat (first | exact Has.nil _ | refine Has.cons rfl ?_))
        · exact (by repeat (first | exact Has.nil _ | refine Has.cons rfl ?_))
        · exact (SubH.cons 0 rfl (SubH.cons 1 rfl (SubH.cons 2 rfl (SubH.cons 1 rfl (SubH.nil _)))))
      · rintro Δ LL ⟨b5, q5, x, ⟨hok, hb5, hbc5⟩, rfl, rfl⟩
        simp only [List.cons_append, List.nil_append]
        refine wp_seq' ?_
        have hp5 := shortA_p x.c
        have hb6 := shortA_b x.c
        have hln : (lastN (shortA x.c).p).length ≤ 32 := lastN_le few2_le
        have hat := hok.at'
        refine wp_know (fun w F s => row_caps 1 rfl s) ?_
        intro hcp
        refine wp_region' ?_
        refine ops_ro' rfl (ro_move rfl) rfl ?_
        refine ops_ro' rfl (ro_fieldAddr fa47_2 rfl) rfl ?_
        refine ops_ro' rfl (ro_load sc29 rfl (Rd.pick 0 rfl (Rd.own rfl))) rfl ?_
        refine ops_ro' rfl (ro_fieldAddr fa47_4 rfl) rfl ?_
        refine ops_ro' rfl (ro_load sc4 rfl (Rd.pick 0 rfl (Rd.own rfl))) rfl ?_
        refine ops_eff' rfl (eff_call Try.call11 rfl rfl (by repeat (first | exact Split.nil _ | apply Split.cons 0 rfl | apply Split.cons 1 rfl | apply Split.cons 2 rfl | apply Split.cons 3 rfl | apply Split.cons 4 rfl | apply Split.cons 5 rfl | apply Split.cons 6 rfl | apply Split.cons 7 rfl | apply Split.cons 8 rfl | apply Split.cons 9 rfl | apply Split.cons 10 rfl | apply Split.cons 11 rfl)) (tri_arg htb (make_spec (V := row 9 1 (.slice q5.pp ((shortA x.c).p).length q5.pc) ((shortA x.c).p).length (txs ((shortA x.c).p))) hW (by omega) q5.pp q5.pc (shortA x.c).p Vw.row hcp (by omega) (by omega) (shortA x.c).dir))) rfl ?_
        rintro _ H' ⟨_, ⟨t1, r1, i1, e1, rfl, hR1, hW1, rfl⟩, hH⟩
        simp only [List.cons_append, List.nil_append, List.eraseIdx_cons_zero, List.eraseIdx_cons_succ, List.set_cons_zero, List.set_cons_succ] at hH
        subst hH
        obtain ⟨d1, hD1, hnx1, ht1⟩ := make_dp hW hD hR1 (by omega)
        refine ops_nil ?_
        refine Then_normal ?_
        refine wp_region' ?_
        refine ops_ro' rfl (ro_move rfl) rfl ?_
        refine ops_ro' rfl (ro_fieldAddr fa47_1 rfl) rfl ?_
        refine ops_ro' rfl (ro_load sc3 rfl (Rd.pick 2 rfl (Rd.own rfl))) rfl ?_
        refine ops_ro' rfl (ro_fieldAddr fa47_5 rfl) rfl ?_
        refine ops_ro' rfl (ro_load sc34 rfl (Rd.pick 2 rfl (Rd.own rfl))) rfl ?_
        refine ops_ro' rfl (ro_rem rfl rfl (by omega) (show ((((shortA x.c).at' : Nat) : Int).tmod 500 = (((shortA x.c).at' % 500 : Nat) : Int)) from tmodN)) rfl ?_
        refine ops_ro' rfl (ro_fieldAddr fa47_7 rfl) rfl ?_
        refine ops_ro' rfl (ro_load sc30 rfl (Rd.pick 2 rfl (Rd.own rfl))) rfl ?_
        refine ops_eff' rfl (eff_call Try.call14 rfl rfl (by repeat (first | exact Split.nil _ | apply Split.cons 0 rfl | apply Split.cons 1 rfl | apply Split.cons 2 rfl | apply Split.cons 3 rfl | apply Split.cons 4 rfl | apply Split.cons 5 rfl | apply Split.cons 6 rfl | apply Split.cons 7 rfl | apply Split.cons 8 rfl | apply Split.cons 9 rfl | apply Split.cons 10 rfl | apply Split.cons 11 rfl)) (tri_arg (by rw [ht1, htb]) (write_spec hW1 (shortA x.c).id ((shortA x.c).at' % 500) (by omega) q5.bp q5.bc (shortA x.c).b hb5 (by omega)))) rfl ?_
        rintro _ H' ⟨_, ⟨t2, e2, rfl, hR2, rfl⟩, hH⟩
        simp only [List.cons_append, List.nil_append, List.eraseIdx_cons_zero, List.eraseIdx_cons_succ, List.set_cons_zero, List.set_cons_succ] at hH
        subst hH
        obtain ⟨hW2, hD2, hnx2, ht2⟩ := write_dp hW1 hD1 hR2
        refine ops_nil ?_
        refine InBlock_normal ?_
        refine Then_normal ?_
        refine wp_region' ?_
        refine ops_ro' rfl (ro_move rfl) rfl ?_
        refine ops_ro' rfl (ro_add rfl rfl (wrap_inc (by omega))) rfl ?_
        refine ops_ro' rfl (ro_assign rfl) rfl ?_
        refine ops_nil ?_
        refine Then_normal ?_
        refine back (m - 1) (by omega) (kept ⟨i + 1, t2, r1, d1, ⟨by omega, by rw [ht2, ht1, htb], by omega, hW2, hD2⟩, rfl, rfl⟩ ?_ ?_ ?_)
        · exact (by repeat (first | exact Has.nil _ | refine Has.cons rfl ?_))
        · exact (by repeat (first | exact Has.nil _ | refine Has.cons rfl ?_))
        · exact (SubH.cons 0 rfl (SubH.cons 0 rfl (SubH.nil _)))
    · replace hc19 := of_decide_eq_false hc19
      refine wp_exit' ?_
      refine Then_exit ?_
      refine Then_exit ?_
      refine InBlock_here ?_
      refine Then_normal ?_
      refine wp_seq' ?_
      have hw1 : tot t.ns (fun _ => 1) (5 - 0) r = t.ns.length := by rw [← sum_one]; exact tot_all hW hD _
      have hw2 : tot t.ns (fun y => y.data.length) (5 - 0) r = t.bytes := (tot_all hW hD _).trans hW.sum.symm
      refine wp_region' ?_
      refine ops_ro' rfl (ro_move rfl) rfl ?_
      refine ops_eff' rfl (eff_callM (Pre := []) Try.call20 rfl rfl (Split.nil _) (tri_arg htb ((walk_all hW hD 6 0 rfl) _ none 0 [] r (by first | exact Tv.pick 0 rfl (tree_tv t) | exact Tv.pick 1 rfl (tree_tv t) | exact Tv.pick 2 rfl (tree_tv t) | exact Tv.pick 3 rfl (tree_tv t) | exact Tv.pick 4 rfl (tree_tv t) | exact Tv.pick 5 rfl (tree_tv t) | exact Tv.pick 6 rfl (tree_tv t)) (Vw.nil _) rfl rfl))) rfl ?_
      rintro _ H' ⟨_, ⟨rfl, rfl⟩, hH⟩
      simp only [List.cons_append, List.nil_append, List.eraseIdx_cons_zero, List.eraseIdx_cons_succ, List.set_cons_zero, List.set_cons_succ] at hH
      subst hH
      rw [hw1, hw2]
      refine ops_ro' rfl (ro_move rfl) rfl ?_
      refine ops_ro' rfl (ro_extract rfl rfl) rfl ?_
      refine ops_ro' rfl (ro_extract rfl rfl) rfl ?_
      refine ops_ro' rfl (ro_extract rfl rfl) rfl ?_
      refine ops_ro' rfl (ro_assign rfl) rfl ?_
      refine ops_ro' rfl (ro_assign rfl) rfl ?_
      refine ops_ro' rfl (ro_assign rfl) rfl ?_
      refine ops_nil ?_
      refine Then_normal ?_
      refine wp_seq' ?_
      refine wp_region' ?_
      refine ops_ro' rfl (ro_move rfl) rfl ?_
      refine ops_ro' rfl (ro_move (v := .bool true) rfl) rfl ?_
      refine ops_ro' rfl (ro_move rfl) rfl ?_
      refine ops_ro' rfl (ro_move rfl) rfl ?_
      refine ops_eff' rfl (eff_callM (Pre := []) Try.call21 rfl rfl (Split.nil _) (tri_arg htb (count_spec (by first | exact Tv.pick 0 rfl (tree_tv t) | exact Tv.pick 1 rfl (tree_tv t) | exact Tv.pick 2 rfl (tree_tv t) | exact Tv.pick 3 rfl (tree_tv t) | exact Tv.pick 4 rfl (tree_tv t) | exact Tv.pick 5 rfl (tree_tv t) | exact Tv.pick 6 rfl (tree_tv t))))) rfl ?_
      rintro _ H' ⟨_, ⟨rfl, rfl⟩, hH⟩
      simp only [List.cons_append, List.nil_append, List.eraseIdx_cons_zero, List.eraseIdx_cons_succ, List.set_cons_zero, List.set_cons_succ] at hH
      subst hH
      refine ops_ro' rfl (ro_eql rfl rfl (decide_eq_true (by omega))) rfl ?_
      refine ops_ro' rfl (ro_pick rfl rfl) rfl ?_
      refine ops_ro' rfl (ro_move (v := .bool true) rfl) rfl ?_
      refine ops_ro' rfl (ro_move rfl) rfl ?_
      refine ops_ro' rfl (ro_move rfl) rfl ?_
      refine ops_eff' rfl (eff_callM (Pre := []) Try.call16 rfl rfl (Split.nil _) (tri_arg htb (bytes_spec (by first | exact Tv.pick 0 rfl (tree_tv t) | exact Tv.pick 1 rfl (tree_tv t) | exact Tv.pick 2 rfl (tree_tv t) | exact Tv.pick 3 rfl (tree_tv t) | exact Tv.pick 4 rfl (tree_tv t) | exact Tv.pick 5 rfl (tree_tv t) | exact Tv.pick 6 rfl (tree_tv t))))) rfl ?_
      rintro _ H' ⟨_, ⟨rfl, rfl⟩, hH⟩
      simp only [List.cons_append, List.nil_append, List.eraseIdx_cons_zero, List.eraseIdx_cons_succ, List.set_cons_zero, List.set_cons_succ] at hH
      subst hH
      refine ops_ro' rfl (ro_eql rfl rfl (decide_eq_true (by omega))) rfl ?_
      refine ops_ro' rfl (ro_pick rfl rfl) rfl ?_
      refine ops_ro' rfl (ro_move (v := .bool true) rfl) rfl ?_
      refine ops_eff' rfl (eff_call Try.call18 rfl rfl (by repeat (first | exact Split.nil _ | apply Split.cons 0 rfl | apply Split.cons 1 rfl | apply Split.cons 2 rfl | apply Split.cons 3 rfl | apply Split.cons 4 rfl | apply Split.cons 5 rfl | apply Split.cons 6 rfl | apply Split.cons 7 rfl | apply Split.cons 8 rfl | apply Split.cons 9 rfl | apply Split.cons 10 rfl | apply Split.cons 11 rfl)) (known15_spec)) rfl ?_
      rintro _ H' ⟨_, ⟨rfl, rfl⟩, hH⟩
      simp only [List.cons_append, List.nil_append, List.eraseIdx_cons_zero, List.eraseIdx_cons_succ, List.set_cons_zero, List.set_cons_succ] at hH
      subst hH
      refine ops_ro' rfl (ro_pick rfl rfl) rfl ?_
      refine ops_ro' rfl (ro_assign rfl) rfl ?_
      refine ops_nil ?_
      refine Then_normal ?_
      refine wp_ret' ?_
      refine' doneS_ret (res1 rfl rfl) ?_ ?_
      rotate_left 1
      exact ⟨rfl, rfl⟩
      exact (SubH.cons 1 rfl (SubH.nil _))
  · replace hg16 := of_decide_eq_false hg16
    refine ops_skip' rfl rfl ?_
    refine ops_skip' rfl rfl ?_
    refine ops_ro' rfl (ro_pick rfl rfl) rfl ?_
    refine ops_nil ?_
    refine Then_normal ?_
    refine wp_condF rfl ?_
    refine wp_exit' ?_
    refine Then_exit ?_
    refine Then_exit ?_
    refine InBlock_here ?_
    refine Then_normal ?_
    refine wp_seq' ?_
    have hw1 : tot t.ns (fun _ => 1) (5 - 0) r = t.ns.length := by rw [← sum_one]; exact tot_all hW hD _
    have hw2 : tot t.ns (fun y => y.data.length) (5 - 0) r = t.bytes := (tot_all hW hD _).trans hW.sum.symm
    refine wp_region' ?_
    refine ops_ro' rfl (ro_move rfl) rfl ?_
    refine ops_eff' rfl (eff_callM (Pre := []) Try.call20 rfl rfl (Split.nil _) (tri_arg htb ((walk_all hW hD 6 0 rfl) _ none 0 [] r (by first | exact Tv.pick 0 rfl (tree_tv t) | exact Tv.pick 1 rfl (tree_tv t) | exact Tv.pick 2 rfl (tree_tv t) | exact Tv.pick 3 rfl (tree_tv t) | exact Tv.pick 4 rfl (tree_tv t) | exact Tv.pick 5 rfl (tree_tv t) | exact Tv.pick 6 rfl (tree_tv t)) (Vw.nil _) rfl rfl))) rfl ?_
    rintro _ H' ⟨_, ⟨rfl, rfl⟩, hH⟩
    simp only [List.cons_append, List.nil_append, List.eraseIdx_cons_zero, List.eraseIdx_cons_succ, List.set_cons_zero, List.set_cons_succ] at hH
    subst hH
    rw [hw1, hw2]
    refine ops_ro' rfl (ro_move rfl) rfl ?_
    refine ops_ro' rfl (ro_extract rfl rfl) rfl ?_
    refine ops_ro' rfl (ro_extract rfl rfl) rfl ?_
    refine ops_ro' rfl (ro_extract rfl rfl) rfl ?_
    refine ops_ro' rfl (ro_assign rfl) rfl ?_
    refine ops_ro' rfl (ro_assign rfl) rfl ?_
    refine ops_ro' rfl (ro_assign rfl) rfl ?_
    refine ops_nil ?_
    refine Then_normal ?_
    refine wp_seq' ?_
    refine wp_region' ?_
    refine ops_ro' rfl (ro_move rfl) rfl ?_
    refine ops_ro' rfl (ro_move (v := .bool true) rfl) rfl ?_
    refine ops_ro' rfl (ro_move rfl) rfl ?_
    refine ops_ro' rfl (ro_move rfl) rfl ?_
    refine ops_eff' rfl (eff_callM (Pre := []) Try.call21 rfl rfl (Split.nil _) (tri_arg htb (count_spec (by first | exact Tv.pick 0 rfl (tree_tv t) | exact Tv.pick 1 rfl (tree_tv t) | exact Tv.pick 2 rfl (tree_tv t) | exact Tv.pick 3 rfl (tree_tv t) | exact Tv.pick 4 rfl (tree_tv t) | exact Tv.pick 5 rfl (tree_tv t) | exact Tv.pick 6 rfl (tree_tv t))))) rfl ?_
    rintro _ H' ⟨_, ⟨rfl, rfl⟩, hH⟩
    simp only [List.cons_append, List.nil_append, List.eraseIdx_cons_zero, List.eraseIdx_cons_succ, List.set_cons_zero, List.set_cons_succ] at hH
    subst hH
    refine ops_ro' rfl (ro_eql rfl rfl (decide_eq_true (by omega))) rfl ?_
    refine ops_ro' rfl (ro_pick rfl rfl) rfl ?_
    refine ops_ro' rfl (ro_move (v := .bool true) rfl) rfl ?_
    refine ops_ro' rfl (ro_move rfl) rfl ?_
    refine ops_ro' rfl (ro_move rfl) rfl ?_
    refine ops_eff' rfl (eff_callM (Pre := []) Try.call16 rfl rfl (Split.nil _) (tri_arg htb (bytes_spec (by first | exact Tv.pick 0 rfl (tree_tv t) | exact Tv.pick 1 rfl (tree_tv t) | exact Tv.pick 2 rfl (tree_tv t) | exact Tv.pick 3 rfl (tree_tv t) | exact Tv.pick 4 rfl (tree_tv t) | exact Tv.pick 5 rfl (tree_tv t) | exact Tv.pick 6 rfl (tree_tv t))))) rfl ?_
    rintro _ H' ⟨_, ⟨rfl, rfl⟩, hH⟩
    simp only [List.cons_append, List.nil_append, List.eraseIdx_cons_zero, List.eraseIdx_cons_succ, List.set_cons_zero, List.set_cons_succ] at hH
    subst hH
    refine ops_ro' rfl (ro_eql rfl rfl (decide_eq_true (by omega))) rfl ?_
    refine ops_ro' rfl (ro_pick rfl rfl) rfl ?_
    refine ops_ro' rfl (ro_move (v := .bool true) rfl) rfl ?_
    refine ops_eff' rfl (eff_call Try.call18 rfl rfl (by repeat (first | exact Split.nil _ | apply Split.cons 0 rfl | apply Split.cons 1 rfl | apply Split.cons 2 rfl | apply Split.cons 3 rfl | apply Split.cons 4 rfl | apply Split.cons 5 rfl | apply Split.cons 6 rfl | apply Split.cons 7 rfl | apply Split.cons 8 rfl | apply Split.cons 9 rfl | apply Split.cons 10 rfl | apply Split.cons 11 rfl)) (known15_spec)) rfl ?_
    rintro _ H' ⟨_, ⟨rfl, rfl⟩, hH⟩
    simp only [List.cons_append, List.nil_append, List.eraseIdx_cons_zero, List.eraseIdx_cons_succ, List.set_cons_zero, List.set_cons_succ] at hH
    subst hH
    refine ops_ro' rfl (ro_pick rfl rfl) rfl ?_
    refine ops_ro' rfl (ro_assign rfl) rfl ?_
    refine ops_nil ?_
    refine Then_normal ?_
    refine wp_ret' ?_
    refine' doneS_ret (res1 rfl rfl) ?_ ?_
    rotate_left 1
    exact ⟨rfl, rfl⟩
    exact (SubH.cons 1 rfl (SubH.nil _))

end Go.Proofs.Ytbbmhppkhcodfaa
