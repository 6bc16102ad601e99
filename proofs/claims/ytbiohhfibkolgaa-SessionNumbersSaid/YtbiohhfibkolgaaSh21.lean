/-
  The asks of law 21, cut short; the runs of chapter 21.
-/
import Derived.Test.YtbiohhfibkolgaaTab3
namespace Go.Proofs.Ytbiohhfibkolgaa
open Go.Sx
set_option linter.unusedVariables false
set_option linter.unusedSimpArgs false
set_option maxRecDepth 100000
set_option maxHeartbeats 4000000

def Rp.Caps (r : Rp) : Prop := r.c.d.length ≤ r.cd ∧ r.c.ns.length ≤ r.cn
def Rc.short (c : Rc) : Rc := ⟨c.kind, c.status, c.h.take 100, c.d.take 100, if (c.ns.take 5).any (fun x => decide (100 < x.n.length)) then [] else c.ns.take 5, c.at'⟩
theorem short_step {m ns : List Nm} {i : Nat} (h : (ns = m ∧ ∀ x ∈ ns.take i, x.n.length ≤ 100) ∨ (ns = [] ∧ ∃ x ∈ m, 100 < x.n.length)) (hi : i < ns.length) (hs : ns[i].n.length ≤ 100) : (ns = m ∧ ∀ x ∈ ns.take (i + 1), x.n.length ≤ 100) ∨ (ns = [] ∧ ∃ x ∈ m, 100 < x.n.length) := by
  rcases h with ⟨h1, h2⟩ | ⟨h1, h2⟩
  · refine .inl ⟨h1, fun x hx => ?_⟩
    rw [List.take_succ_eq_append_getElem hi, List.mem_append, List.mem_singleton] at hx
    rcases hx with hx | rfl
    · exact h2 x hx
    · exact hs
  · subst h1; simp at hi
theorem short_nil {m ns : List Nm} {i : Nat} (h : (ns = m ∧ ∀ x ∈ ns.take i, x.n.length ≤ 100) ∨ (ns = [] ∧ ∃ x ∈ m, 100 < x.n.length)) (hi : i < ns.length) (hs : (100 : Int) < (ns[i].n.length : Nat)) {j : Nat} : (([] : List Nm) = m ∧ ∀ x ∈ ([] : List Nm).take j, x.n.length ≤ 100) ∨ (([] : List Nm) = [] ∧ ∃ x ∈ m, 100 < x.n.length) := by
  rcases h with ⟨h1, h2⟩ | ⟨h1, h2⟩
  · subst h1; exact .inr ⟨rfl, ns[i], List.getElem_mem hi, by omega⟩
  · subst h1; simp at hi
theorem short_end {c : Rc} {ns : List Nm} {i : Nat} (h : (ns = c.ns.take 5 ∧ ∀ x ∈ ns.take i, x.n.length ≤ 100) ∨ (ns = [] ∧ ∃ x ∈ c.ns.take 5, 100 < x.n.length)) (hi : ns.length ≤ i) : (⟨c.kind, c.status, c.h.take 100, c.d.take 100, ns, c.at'⟩ : Rc) = c.short := by
  unfold Rc.short
  rcases h with ⟨h1, h2⟩ | ⟨h1, h2⟩
  · rw [List.take_of_length_le hi] at h2
    rw [if_neg, h1]
    intro hh
    obtain ⟨x, hx, hl⟩ := List.any_eq_true.1 hh
    have := h2 x (h1 ▸ hx)
    simp at hl; omega
  · rw [if_pos, h1]
    obtain ⟨x, hx, hl⟩ := h2
    exact List.any_eq_true.2 ⟨x, hx, by simpa using hl⟩
theorem short_spec (V : HProp) (r : Rp) (hV : r.In V) (hcap : r.Caps) (hn : r.c.ns.length ≤ 9223372036854775807) : Tri Try.prog 20 [r.v] [V] (fun v H' => ∃ K, (∃ r' : Rp, r'.In V ∧ r'.c = r.c.short ∧ r'.Caps ∧ v = r'.v ∧ K = []) ∧ H' = K ++ [V]) := by
  refine tri_of_wpS Try.func20 rfl Try.ntmps20 (by simp) ?_
  refine wp_seq' ?_
  refine wp_region' ?_
  refine ops_eff' rfl (eff_box rfl) rfl ?_
  rintro _ _ ⟨b1, rfl, rfl⟩
  refine ops_eff' rfl (eff_alloc z32) rfl ?_
  rintro _ _ ⟨b2, rfl, rfl⟩
  refine ops_nil ?_
  refine Then_normal ?_
  refine wp_seq' ?_
  refine wp_region' ?_
  refine ops_ro' rfl (ro_fieldAddr fa32_2 rfl) rfl ?_
  refine ops_ro' rfl (ro_load sc9 rfl (Rd.pick 1 rfl (Rd.own rfl))) rfl ?_
  refine ops_eff' rfl (eff_call Try.call21 rfl rfl (by repeat (first | exact Split.nil _ | apply Split.cons 0 rfl | apply Split.cons 1 rfl | apply Split.cons 2 rfl | apply Split.cons 3 rfl | apply Split.cons 4 rfl | apply Split.cons 5 rfl | apply Split.cons 6 rfl | apply Split.cons 7 rfl | apply Split.cons 8 rfl | apply Split.cons 9 rfl | apply Split.cons 10 rfl | apply Split.cons 11 rfl)) (headL r.c.h 100)) rfl ?_
  rintro _ H' ⟨_, ⟨rfl, rfl⟩, hH⟩
  simp only [List.cons_append, List.nil_append, List.eraseIdx_cons_zero, List.eraseIdx_cons_succ, List.set_cons_zero, List.set_cons_succ] at hH
  subst hH
  refine ops_ro' rfl (ro_fieldAddr fa32_2 rfl) rfl ?_
  refine ops_eff0 rfl (eff_store 1 sc9 rfl rfl rfl rfl (Nat.le_of_ble_eq_true rfl) (warm_zero _)) rfl ?_
  rintro _ _ rfl
  refine ops_nil ?_
  refine Then_normal ?_
  refine wp_seq' ?_
  refine wp_region' ?_
  refine ops_ro' rfl (ro_fieldAddr fa32_3 rfl) rfl ?_
  refine ops_ro' rfl (ro_load sc25 rfl (Rd.pick 1 rfl (Rd.own rfl))) rfl ?_
  refine ops_eff' rfl (eff_call Try.call52 rfl rfl (by repeat (first | exact Split.nil _ | apply Split.cons 0 rfl | apply Split.cons 1 rfl | apply Split.cons 2 rfl | apply Split.cons 3 rfl | apply Split.cons 4 rfl | apply Split.cons 5 rfl | apply Split.cons 6 rfl | apply Split.cons 7 rfl | apply Split.cons 8 rfl | apply Split.cons 9 rfl | apply Split.cons 10 rfl | apply Split.cons 11 rfl)) (cutL V r.pd r.cd r.c.d 100 hV.d hcap.1)) rfl ?_
  rintro _ H' ⟨_, ⟨_, ⟨p', c', rfl, hv2, hc', rfl⟩, rfl⟩, hH⟩
  simp only [List.cons_append, List.nil_append, List.eraseIdx_cons_zero, List.eraseIdx_cons_succ, List.set_cons_zero, List.set_cons_succ] at hH
  subst hH
  refine ops_ro' rfl (ro_fieldAddr fa32_3 rfl) rfl ?_
  refine ops_eff0 rfl (eff_store 2 sc25 rfl rfl rfl rfl (Nat.le_of_ble_eq_true rfl) (warm_zero _)) rfl ?_
  rintro _ _ rfl
  refine ops_nil ?_
  refine Then_normal ?_
  refine wp_cutK 1005 (fun Δ L => ∃ (pn : Option Addr) (cn : Nat), (Vw V (.slice pn (r.c.ns.take 5).length cn) (r.c.ns.take 5).length (ncs (r.c.ns.take 5)) ∧ (r.c.ns.take 5).length ≤ cn) ∧ Δ = [] ∧ L = [own b1 (.cells (Rp.cs ⟨⟨r.c.kind, r.c.status, r.c.h.take 100, r.c.d.take 100, (r.c.ns.take 5), r.c.at'⟩, p', c', pn, cn⟩).toArray 32 (0, 0)), own b2 (.cells Rp.zero.cs.toArray 32 (0, 0)), V]) (Has.cons (k := 1) rfl (Has.cons (k := 2) rfl (Has.nil _))) ?_ ?_
  · refine wp_seq' ?_
    refine wp_region' ?_
    refine ops_ro' rfl (ro_fieldAddr fa32_4 rfl) rfl ?_
    refine ops_ro' rfl (ro_load sc26 rfl (Rd.pick 2 rfl (Rd.own rfl))) rfl ?_
    refine ops_ro' rfl (ro_sliceLen Try.underlying26 rfl) rfl ?_
    refine ops_ro' rfl (ro_gtr rfl rfl rfl) rfl ?_
    refine ops_nil ?_
    refine Then_normal ?_
    refine wp_cond' rfl (fun hc15 => ?_) (fun hc15 => ?_)
    · replace hc15 := of_decide_eq_true hc15
      refine wp_region' ?_
      refine ops_ro' rfl (ro_fieldAddr fa32_4 rfl) rfl ?_
      refine ops_ro' rfl (ro_load sc26 rfl (Rd.pick 2 rfl (Rd.own rfl))) rfl ?_
      refine ops_eff' rfl (eff_sliceF 0 rfl Nm.len sl26 rfl (hV.n) rfl rfl (by omega) (by omega) hcap.2) rfl ?_
      rintro _ _ ⟨p18, rfl, hv18, hn18, rfl⟩
      refine ops_ro' rfl (ro_fieldAddr fa32_4 rfl) rfl ?_
      refine ops_eff0 rfl (eff_store 2 sc26 rfl rfl rfl rfl (Nat.le_of_ble_eq_true rfl) (warm_zero _)) rfl ?_
      rintro _ _ rfl
      refine ops_nil ?_
      refine Then_normal ?_
      try rw [List.take_of_length_le (show r.c.ns.length ≤ 5 by omega)]
      refine over_cut (kept ⟨p18, _, ⟨hv18, by have h := hcap.2; simp; omega⟩, rfl, rfl⟩ ?_ ?_ ?_)
      · exact (by repeat (first | exact Has.nil _ | refine Has.cons rfl ?_))
      · exact (by repeat (first | exact Has.nil _ | refine Has.cons rfl ?_))
      · exact (SubH.cons 2 rfl (SubH.cons 1 rfl (SubH.cons 0 rfl (SubH.nil _))))
    · replace hc15 := of_decide_eq_false hc15
      refine wp_skip' ?_
      refine Then_normal ?_
      try rw [List.take_of_length_le (show r.c.ns.length ≤ 5 by omega)]
      refine over_cut (kept ⟨r.pn, r.cn, ⟨hV.n, hcap.2⟩, rfl, rfl⟩ ?_ ?_ ?_)
      · exact (by repeat (first | exact Has.nil _ | refine Has.cons rfl ?_))
      · exact (by repeat (first | exact Has.nil _ | refine Has.cons rfl ?_))
      · exact (SubH.cons 2 rfl (SubH.cons 1 rfl (SubH.cons 0 rfl (SubH.nil _))))
  · rintro Δ L ⟨pn, cn, ⟨hpn, hcn⟩, rfl, rfl⟩
    simp only [List.cons_append, List.nil_append]
    refine wp_seq' ?_
    refine wp_seq' ?_
    refine wp_region' ?_
    refine ops_ro' rfl (ro_assign rfl) rfl ?_
    refine ops_nil ?_
    refine Then_normal ?_
    refine wp_block' ?_
    refine wp_loopK 6 (fun m Δ L => ∃ (i : Nat) (ns : List Nm) (pn : Option Addr) (cn : Nat), (ns.length - i = m ∧ i ≤ 5 ∧ ns.length ≤ 5 ∧ Vw V (.slice pn ns.length cn) ns.length (ncs ns) ∧ ns.length ≤ cn ∧ ((ns = (r.c.ns.take 5) ∧ ∀ x ∈ ns.take i, x.n.length ≤ 100) ∨ (ns = [] ∧ ∃ x ∈ (r.c.ns.take 5), 100 < x.n.length))) ∧ Δ = [(3, .int .i64 (i : Nat))] ∧ L = [own b1 (.cells (Rp.cs ⟨⟨r.c.kind, r.c.status, r.c.h.take 100, r.c.d.take 100, ns, r.c.at'⟩, p', c', pn, cn⟩).toArray 32 (0, 0)), own b2 (.cells Rp.zero.cs.toArray 32 (0, 0)), V]) (m := (r.c.ns.take 5).length) (Has.cons (k := 1) rfl (Has.cons (k := 2) rfl (Has.nil _))) (kept ⟨0, (r.c.ns.take 5), pn, cn, ⟨by omega, by omega, by simp; omega, hpn, hcn, .inl ⟨rfl, by simp⟩⟩, rfl, rfl⟩ (by repeat (first | exact Has.nil _ | refine Has.cons rfl ?_)) (by repeat (first | exact Has.nil _ | refine Has.cons rfl ?_)) (by repeat (first | exact SubH.nil _ | refine SubH.cons 0 rfl ?_ | refine SubH.cons 1 rfl ?_ | refine SubH.cons 2 rfl ?_ | refine SubH.cons 3 rfl ?_ | refine SubH.cons 4 rfl ?_ | refine SubH.cons 5 rfl ?_ | refine SubH.cons 6 rfl ?_ | refine SubH.cons 7 rfl ?_ | refine SubH.cons 8 rfl ?_ | refine SubH.cons 9 rfl ?_ | refine SubH.cons 10 rfl ?_ | refine SubH.cons 11 rfl ?_ | refine SubH.cons 12 rfl ?_ | refine SubH.cons 13 rfl ?_ | refine SubH.rown ?_))) ?_
    rintro m Δ L ⟨i, ns, pn, cn, ⟨hm, hi1, h5, hpn, hcn, hor⟩, rfl, rfl⟩
    simp only [List.cons_append, List.nil_append]
    refine wp_seq' ?_
    refine wp_seq' ?_
    refine wp_region' ?_
    refine ops_ro' rfl (ro_move rfl) rfl ?_
    refine ops_ro' rfl (ro_fieldAddr fa32_4 rfl) rfl ?_
    refine ops_ro' rfl (ro_load sc26 rfl (Rd.pick 0 rfl (Rd.own rfl))) rfl ?_
    refine ops_ro' rfl (ro_sliceLen Try.underlying26 rfl) rfl ?_
    refine ops_ro' rfl (ro_lss rfl rfl rfl) rfl ?_
    refine ops_nil ?_
    refine Then_normal ?_
    refine wp_cond' rfl (fun hc24 => ?_) (fun hc24 => ?_)
    · replace hc24 := of_decide_eq_true hc24
      dsimp only at hc24
      replace hc24 : ((i : Nat) : Int) < ((ns.length : Nat) : Int) := hc24
      have hi : i < ns.length := by omega
      refine wp_know (fun w F s => vw_ptr (Vw.pick (H := [_, _, V]) 2 rfl hpn) s (by omega)) ?_
      rintro ⟨bb, o, rfl⟩
      refine wp_skip' ?_
      refine Then_normal ?_
      refine wp_seq' ?_
      refine wp_block' ?_
      refine wp_seq' ?_
      refine wp_region' ?_
      refine ops_ro' rfl (ro_fieldAddr fa32_4 rfl) rfl ?_
      refine ops_ro' rfl (ro_load sc26 rfl (Rd.pick 0 rfl (Rd.own rfl))) rfl ?_
      refine ops_ro' rfl (ro_move rfl) rfl ?_
      refine ops_ro' rfl (ro_indexSlice sl26 rfl rfl rfl (by omega)) rfl ?_
      refine ops_ro' rfl (ro_fieldAddr fa46_0 rfl) rfl ?_
      refine ops_ro' rfl (ro_load sc9 rfl (Rd.pick 2 rfl (Rd.of_n (j := 0) (RdN.elem (vw_rdn hpn) Nm.len (List.getElem?_eq_getElem hi)) (by omega) rfl))) rfl ?_
      refine ops_ro' rfl (ro_lenS (t' := 0) Try.underlying9 rfl) rfl ?_
      refine ops_ro' rfl (ro_gtr rfl rfl rfl) rfl ?_
      refine ops_nil ?_
      refine Then_normal ?_
      refine wp_cond' rfl (fun hc34 => ?_) (fun hc34 => ?_)
      · replace hc34 := of_decide_eq_true hc34
        refine wp_region' ?_
        refine ops_ro' rfl (ro_fieldAddr fa32_4 rfl) rfl ?_
        refine ops_eff0 rfl (eff_store 0 sc26 rfl rfl rfl rfl (Nat.le_of_ble_eq_true rfl) (warm_zero _)) rfl ?_
        rintro _ _ rfl
        refine ops_nil ?_
        refine InBlock_normal ?_
        refine Then_normal ?_
        refine wp_region' ?_
        refine ops_ro' rfl (ro_move rfl) rfl ?_
        refine ops_ro' rfl (ro_add rfl rfl (wrap_inc (by omega))) rfl ?_
        refine ops_ro' rfl (ro_assign rfl) rfl ?_
        refine ops_nil ?_
        refine Then_normal ?_
        refine back (0) (by omega) (kept ⟨i + 1, [], none, 0, ⟨by simp, by omega, by simp, Vw.nil V, by simp, short_nil hor hi hc34⟩, rfl, rfl⟩ ?_ ?_ ?_)
        · exact (by repeat (first | exact Has.nil _ | refine Has.cons rfl ?_))
        · exact (by repeat (first | exact Has.nil _ | refine Has.cons rfl ?_))
        · exact SubH.refl _
      · replace hc34 := of_decide_eq_false hc34
        refine wp_skip' ?_
        refine InBlock_normal ?_
        refine Then_normal ?_
        refine wp_region' ?_
        refine ops_ro' rfl (ro_move rfl) rfl ?_
        refine ops_ro' rfl (ro_add rfl rfl (wrap_inc (by omega))) rfl ?_
        refine ops_ro' rfl (ro_assign rfl) rfl ?_
        refine ops_nil ?_
        refine Then_normal ?_
        refine back (ns.length - (i + 1)) (by omega) (kept ⟨i + 1, ns, _, cn, ⟨by omega, by omega, h5, hpn, hcn, short_step hor hi (by omega)⟩, rfl, rfl⟩ ?_ ?_ ?_)
        · exact (by repeat (first | exact Has.nil _ | refine Has.cons rfl ?_))
        · exact (by repeat (first | exact Has.nil _ | refine Has.cons rfl ?_))
        · exact SubH.refl _
    · replace hc24 := of_decide_eq_false hc24
      dsimp only at hc24
      replace hc24 : ¬ ((i : Nat) : Int) < ((ns.length : Nat) : Int) := hc24
      refine wp_exit' ?_
      refine Then_exit ?_
      refine Then_exit ?_
      refine InBlock_here ?_
      refine Then_normal ?_
      refine wp_seq' ?_
      refine wp_region' ?_
      refine ops_ro' rfl (ro_loadA ag32 rfl (RdN.of_pick 0 rfl rdn_all) rfl) rfl ?_
      refine ops_eff0 rfl (eff_storeA 1 ag32 rfl rfl rfl rfl rfl (Nat.le_of_ble_eq_true rfl) (warm_zero _)) rfl ?_
      rintro _ _ rfl
      refine ops_nil ?_
      refine Then_normal ?_
      refine wp_ret' ?_
      refine' doneS_ret (resv1 rfl (rv_cellA ag32 rfl (by first | exact RdN.of_pick 0 rfl rdn_all | exact RdN.of_pick 1 rfl rdn_all | exact RdN.of_pick 2 rfl rdn_all | exact RdN.of_pick 3 rfl rdn_all | exact RdN.of_pick 4 rfl rdn_all | exact RdN.of_pick 5 rfl rdn_all | exact RdN.of_pick 6 rfl rdn_all | exact RdN.of_pick 7 rfl rdn_all | exact RdN.of_pick 8 rfl rdn_all | exact RdN.of_pick 9 rfl rdn_all) rfl)) ?_ ?_
      rotate_left 1
      exact ⟨_, ⟨⟨⟨r.c.kind, r.c.status, r.c.h.take 100, r.c.d.take 100, ns, r.c.at'⟩, p', c', pn, cn⟩, ⟨hv2, hpn⟩, short_end hor (by omega), ⟨hc', hcn⟩, rfl, rfl⟩, rfl⟩
      exact (SubH.cons 2 rfl (SubH.nil _))

end Go.Proofs.Ytbiohhfibkolgaa
