/-
  The table of the reference; what both tell.
-/
import Derived.Test.YtbiohhfibkolgaaLaw21
namespace Go.Proofs.Ytbiohhfibkolgaa
open Go.Sx
set_option linter.unusedVariables false
set_option linter.unusedSimpArgs false
set_option maxRecDepth 100000
set_option maxHeartbeats 4000000

/-- what Ask tells, of what is kept -/
def askOf (X : List (Int × Rc)) (client seq : Int) : Int × Rc :=
  if client < 0 ∨ 16 ≤ client ∨ seq < 1 ∨ 1073741824 < seq then (0, Rc.zero) else match X[client.toNat]? with
    | some x => if x.1 < seq then (1, Rc.zero) else if seq = x.1 then (2, x.2) else (3, Rc.zero)
    | none => (0, Rc.zero)
theorem askOf_in {X : List (Int × Rc)} {c : Nat} {x : Int × Rc} {seq : Int} (hx : X[c]? = some x) (hc : c < 16) (h : 1 ≤ seq ∧ seq ≤ 1073741824) : askOf X c seq = if x.1 < seq then (1, Rc.zero) else if seq = x.1 then (2, x.2) else (3, Rc.zero) := by
  unfold askOf; rw [if_neg (by omega), Int.toNat_natCast, hx]
def doneOf (X : List (Int × Rc)) (client seq : Int) (c : Rc) : Int × List (Int × Rc) := if (askOf X client seq).1 = 1 then (0, X.set client.toNat (seq, c)) else (1, X)
theorem told_of {E : List En} {client seq how : Int} {r : Rp} (hE : E.length = 16) (h : Told E client seq how r) : (how, r.c) = askOf (E.map En.sc) client seq := by
  rcases h with ⟨rfl, rfl, h⟩ | ⟨c, e, rfl, hc, h⟩
  · rw [askOf, if_pos h]; rfl
  · have hx : (E.map En.sc)[c]? = some e.sc := by rw [List.getElem?_map, hc]; rfl
    have hcl := (List.getElem?_eq_some_iff.1 hc).1
    have e1 : e.sc.1 = e.seq := rfl
    have e2 : e.sc.2 = e.r.c := rfl
    rcases h with ⟨rfl, rfl, h1, h2, h3⟩ | ⟨rfl, h0, h1, h2, h3⟩ | ⟨rfl, rfl, h1, h2, h3⟩
    · rw [askOf_in hx (by omega) ⟨h1, h2⟩, if_pos (by rw [e1]; exact h3)]; rfl
    · rw [askOf_in hx (by omega) ⟨h1, h2⟩, if_neg (by omega), if_pos (by rw [e1]; exact h3), e2, h0]
    · rw [askOf_in hx (by omega) ⟨h1, h2⟩, if_neg (by omega), if_neg (by omega)]; rfl
theorem askOf_one {X : List (Int × Rc)} {client seq : Int} (h : (askOf X client seq).1 = 1) : ∃ c : Nat, client = (c : Int) ∧ c < 16 ∧ 1 ≤ seq ∧ seq ≤ 1073741824 := by
  unfold askOf at h
  split at h
  · simp at h
  · exact ⟨client.toNat, by omega, by omega, by omega, by omega⟩
def wcs (s : List Int) (rs : List Rp) : List Value := s.map (Value.int .i64) ++ flat Rp.cs rs
abbrev wtab (bw : Nat) (s : List Int) (rs : List Rp) : HProp := own bw (.cells (wcs s rs).toArray 88 (0, 0))
structure Wt (V : HProp) (X : List (Int × Rc)) (s : List Int) (rs : List Rp) : Prop where
  ls : s.length = 16
  lr : rs.length = 16
  lx : X.length = 16
  s : ∀ (c : Nat) (x : Int × Rc), X[c]? = some x → s[c]? = some x.1
  r : ∀ (c : Nat) (x : Int × Rc) (r : Rp), X[c]? = some x → rs[c]? = some r → r.c = x.2
  in' : ∀ r ∈ rs, r.In V
theorem Wt.at' {V : HProp} {X : List (Int × Rc)} {s : List Int} {rs : List Rp} (h : Wt V X s rs) {c : Nat} (hc : c < 16) : ∃ (x : Int) (r : Rp), X[c]? = some (x, r.c) ∧ rs[c]? = some r ∧ s[c]? = some x := by
  have h1 : c < X.length := by rw [h.lx]; exact hc
  have h2 : c < rs.length := by rw [h.lr]; exact hc
  have e1 : X[c]? = some X[c] := List.getElem?_eq_getElem h1
  have e2 : rs[c]? = some rs[c] := List.getElem?_eq_getElem h2
  refine ⟨X[c].1, rs[c], ?_, e2, h.s c _ e1⟩
  rw [e1, h.r c _ _ e1 e2]
theorem Wt.set {V : HProp} {X : List (Int × Rc)} {s : List Int} {rs : List Rp} (h : Wt V X s rs) (c : Nat) (q : Int) (r : Rp) (hr : r.In V) : Wt V (X.set c (q, r.c)) (s.set c q) (rs.set c r) := by
  refine ⟨by rw [List.length_set]; exact h.ls, by rw [List.length_set]; exact h.lr, by rw [List.length_set]; exact h.lx, ?_, ?_, ?_⟩
  · intro k x hk
    by_cases e : c = k
    · subst e
      have hl : c < X.length := by have := (List.getElem?_eq_some_iff.1 hk).1; rwa [List.length_set] at this
      rw [List.getElem?_set_self hl] at hk
      rw [List.getElem?_set_self (by rw [h.ls, ← h.lx]; exact hl)]
      injection hk with hk; rw [← hk]
    · rw [List.getElem?_set_ne e] at hk ⊢; exact h.s k x hk
  · intro k x r' hk hr'
    by_cases e : c = k
    · subst e
      have hl : c < X.length := by have := (List.getElem?_eq_some_iff.1 hk).1; rwa [List.length_set] at this
      rw [List.getElem?_set_self hl] at hk
      rw [List.getElem?_set_self (by rw [h.lr, ← h.lx]; exact hl)] at hr'
      injection hk with hk; injection hr' with hr'; rw [← hk, ← hr']
    · rw [List.getElem?_set_ne e] at hk hr'; exact h.r k x r' hk hr'
  · intro r' hr'
    rcases List.mem_or_eq_of_mem_set hr' with h1 | rfl
    · exact h.in' r' h1
    · exact hr
theorem Rp.len' (r : Rp) : r.cs.length = 12 := rfl
theorem wtab_s {bw : Nat} {s : List Int} {rs : List Rp} {c : Nat} {x : Int} (hx : s[c]? = some x) (hc : c < 16) : Rd (wtab bw s rs) bw (0 + 0 + c * 1) (.int .i64 x) := by
  refine Rd.own ?_
  have hl := (List.getElem?_eq_some_iff.1 hx).1
  rw [wcs, show 0 + 0 + c * 1 = c by omega, List.getElem?_append_left (by simpa using hl), List.getElem?_map, hx]; rfl
theorem wtab_r {V : HProp} {X : List (Int × Rc)} {bw : Nat} {s : List Int} {rs : List Rp} {c : Nat} {r : Rp} (h : Wt V X s rs) (hr : rs[c]? = some r) : RdN (wtab bw s rs) bw (0 + 16 + c * 12) r.cs := fun j u hj => by
  refine Rd.own ?_
  rw [wcs, show 0 + 16 + c * 12 + j = 16 + (c * 12 + j) by omega, List.getElem?_append_right (by simp [h.ls]), List.length_map, h.ls, show 16 + (c * 12 + j) - 16 = c * 12 + j by omega]
  exact flat_get Rp.len' hr hj
theorem wcs_set {s : List Int} {rs : List Rp} {c : Nat} {x : Int} (hs : s.length = 16) (hc : c < 16) : (wcs s rs).set (0 + 0 + c * 1) (.int .i64 x) = wcs (s.set c x) rs := by
  rw [wcs, wcs, show 0 + 0 + c * 1 = c by omega, List.set_append_left _ _ (by simpa [hs] using hc), List.map_set]
theorem wcs_over {s : List Int} {rs : List Rp} {c : Nat} {r : Rp} (hs : s.length = 16) (hr : rs.length = 16) (hc : c < 16) : over (wcs s rs) (0 + 16 + c * 12) r.cs = wcs s (rs.set c r) := by
  have h1 : over (wcs s rs) (0 + 16 + c * 12) r.cs = s.map (Value.int .i64) ++ over (flat Rp.cs rs) (c * 12) r.cs := by
    have e : (s.map (Value.int .i64)).length = 16 := by simp [hs]
    simp only [over, wcs]
    rw [show 0 + 16 + c * 12 = (s.map (Value.int .i64)).length + c * 12 by omega, List.take_length_add_append, Nat.add_assoc, List.drop_length_add_append]
    simp only [List.append_assoc]
  rw [h1, flat_over Rp.len' r (by omega), wcs]
theorem wt_zero (V : HProp) : Wt V ((List.replicate 16 En.zero).map En.sc) (List.replicate 16 0) (List.replicate 16 Rp.zero) := by
  refine ⟨rfl, rfl, rfl, ?_, ?_, ?_⟩
  · intro c x hx
    rw [List.getElem?_map, List.getElem?_replicate] at hx
    rw [List.getElem?_replicate]
    split at hx
    · rename_i hc; rw [if_pos hc]; injection hx with hx; rw [← hx]; rfl
    · cases hx
  · intro c x r hx hr
    rw [List.getElem?_map, List.getElem?_replicate] at hx
    rw [List.getElem?_replicate] at hr
    split at hx
    · rename_i hc; rw [if_pos hc] at hr; injection hx with hx; injection hr with hr; rw [← hx, ← hr]; rfl
    · cases hx
  · intro r hr
    obtain rfl := List.eq_of_mem_replicate hr
    exact Rp.zero_in V
theorem zero_wtab : Zero Try.prog 88 (Value.agg (wcs (List.replicate 16 0) (List.replicate 16 Rp.zero)).toArray) := fun w => by
  rw [Try.zeroValue88 w]; rfl
theorem st_wtab : StructT Try.prog 88 (wcs (List.replicate 16 0) (List.replicate 16 Rp.zero)) [(0, 16), (16, 192)] := ⟨zero_wtab, ⟨_, Try.underlying88, fun w => by simp [Try.sizeOf85, Try.sizeOf86]⟩⟩
theorem rask_spec (V : HProp) (bw : Nat) (X : List (Int × Rc)) (s : List Int) (rs : List Rp) (h : Wt V X s rs) (client seq : Int) :
    Tri Try.prog 48 [.pointer (some ⟨bw, 0, none⟩), .int .i64 client, .int .i64 seq] [wtab bw s rs] (fun v H' => ∃ K, (∃ (how : Int) (r : Rp), v = .tuple #[.int .i64 how, r.v] ∧ (how, r.c) = askOf X client seq ∧ r.In V ∧ K = []) ∧ H' = K ++ [wtab bw s rs]) := by
  refine tri_of_wpS Try.func48 rfl Try.ntmps48 (by simp) ?_
  refine wp_seq' ?_
  refine wp_region' ?_
  refine ops_ro' rfl (ro_assign rfl) rfl ?_
  refine ops_eff' rfl (eff_alloc z32) rfl ?_
  rintro _ _ ⟨b7, rfl, rfl⟩
  refine ops_nil ?_
  refine Then_normal ?_
  refine wp_seq' ?_
  refine wp_block' ?_
  refine wp_seq' ?_
  refine wp_region' ?_
  refine ops_ro' rfl (ro_move rfl) rfl ?_
  refine ops_ro' rfl (ro_lss rfl rfl rfl) rfl ?_
  refine ops_split rfl rfl rfl (fun hg11 => ?_) (fun hg11 => ?_)
  · replace hg11 := of_decide_eq_true hg11
    refine ops_skip' rfl rfl ?_
    refine ops_skip' rfl rfl ?_
    refine ops_ro' rfl (ro_pick rfl rfl) rfl ?_
    refine ops_ro' rfl (ro_move (v := .bool true) rfl) rfl ?_
    refine ops_skip' rfl rfl ?_
    refine ops_skip' rfl rfl ?_
    refine ops_ro' rfl (ro_pick rfl rfl) rfl ?_
    refine ops_ro' rfl (ro_move (v := .bool true) rfl) rfl ?_
    refine ops_skip' rfl rfl ?_
    refine ops_skip' rfl rfl ?_
    refine ops_ro' rfl (ro_pick rfl rfl) rfl ?_
    refine ops_ro' rfl (ro_assign rfl) rfl ?_
    refine ops_nil ?_
    refine Then_normal ?_
    refine wp_condT rfl ?_
    refine wp_seq' ?_
    refine wp_region' ?_
    refine ops_ro' rfl (ro_build rfl (bld_struct (cs := Rp.zero.cs) st32 rfl)) rfl ?_
    refine ops_ro' rfl (ro_assign rfl) rfl ?_
    refine ops_eff0 rfl (eff_storeA 0 ag32 rfl rfl rfl rfl rfl (Nat.le_of_ble_eq_true rfl) (warm_zero _)) rfl ?_
    rintro _ _ rfl
    refine ops_nil ?_
    refine Then_normal ?_
    refine wp_ret' ?_
    refine InBlock_ret ?_
    refine Then_ret ?_
    refine' doneS_ret (resv2 rfl (rv_tmp rfl) (rv_cellA ag32 rfl (by first | exact RdN.of_pick 0 rfl rdn_all | exact RdN.of_pick 1 rfl rdn_all | exact RdN.of_pick 2 rfl rdn_all | exact RdN.of_pick 3 rfl rdn_all | exact RdN.of_pick 4 rfl rdn_all | exact RdN.of_pick 5 rfl rdn_all | exact RdN.of_pick 6 rfl rdn_all | exact RdN.of_pick 7 rfl rdn_all | exact RdN.of_pick 8 rfl rdn_all | exact RdN.of_pick 9 rfl rdn_all) rfl)) ?_ ?_
    rotate_left 1
    exact ⟨_, ⟨0, Rp.zero, rfl, by rw [askOf, if_pos (by omega)]; rfl, Rp.zero_in V, rfl⟩, rfl⟩
    exact (SubH.cons 1 rfl (SubH.nil _))
  · replace hg11 := of_decide_eq_false hg11
    refine ops_ro' rfl (ro_move rfl) rfl ?_
    refine ops_ro' rfl (ro_geq rfl rfl rfl) rfl ?_
    refine ops_ro' rfl (ro_pick rfl rfl) rfl ?_
    refine ops_split rfl rfl rfl (fun hg15 => ?_) (fun hg15 => ?_)
    · replace hg15 := of_decide_eq_true hg15
      refine ops_skip' rfl rfl ?_
      refine ops_skip' rfl rfl ?_
      refine ops_ro' rfl (ro_pick rfl rfl) rfl ?_
      refine ops_ro' rfl (ro_move (v := .bool true) rfl) rfl ?_
      refine ops_skip' rfl rfl ?_
      refine ops_skip' rfl rfl ?_
      refine ops_ro' rfl (ro_pick rfl rfl) rfl ?_
      refine ops_ro' rfl (ro_assign rfl) rfl ?_
      refine ops_nil ?_
      refine Then_normal ?_
      refine wp_condT rfl ?_
      refine wp_seq' ?_
      refine wp_region' ?_
      refine ops_ro' rfl (ro_build rfl (bld_struct (cs := Rp.zero.cs) st32 rfl)) rfl ?_
      refine ops_ro' rfl (ro_assign rfl) rfl ?_
      refine ops_eff0 rfl (eff_storeA 0 ag32 rfl rfl rfl rfl rfl (Nat.le_of_ble_eq_true rfl) (warm_zero _)) rfl ?_
      rintro _ _ rfl
      refine ops_nil ?_
      refine Then_normal ?_
      refine wp_ret' ?_
      refine InBlock_ret ?_
      refine Then_ret ?_
      refine' doneS_ret (resv2 rfl (rv_tmp rfl) (rv_cellA ag32 rfl (by first | exact RdN.of_pick 0 rfl rdn_all | exact RdN.of_pick 1 rfl rdn_all | exact RdN.of_pick 2 rfl rdn_all | exact RdN.of_pick 3 rfl rdn_all | exact RdN.of_pick 4 rfl rdn_all | exact RdN.of_pick 5 rfl rdn_all | exact RdN.of_pick 6 rfl rdn_all | exact RdN.of_pick 7 rfl rdn_all | exact RdN.of_pick 8 rfl rdn_all | exact RdN.of_pick 9 rfl rdn_all) rfl)) ?_ ?_
      rotate_left 1
      exact ⟨_, ⟨0, Rp.zero, rfl, by rw [askOf, if_pos (by omega)]; rfl, Rp.zero_in V, rfl⟩, rfl⟩
      exact (SubH.cons 1 rfl (SubH.nil _))
    · replace hg15 := of_decide_eq_false hg15
      refine ops_ro' rfl (ro_move rfl) rfl ?_
      refine ops_ro' rfl (ro_lss rfl rfl rfl) rfl ?_
      refine ops_ro' rfl (ro_pick rfl rfl) rfl ?_
      refine ops_split rfl rfl rfl (fun hg19 => ?_) (fun hg19 => ?_)
      · replace hg19 := of_decide_eq_true hg19
        refine ops_skip' rfl rfl ?_
        refine ops_skip' rfl rfl ?_
        refine ops_ro' rfl (ro_pick rfl rfl) rfl ?_
        refine ops_ro' rfl (ro_assign rfl) rfl ?_
        refine ops_nil ?_
        refine Then_normal ?_
        refine wp_condT rfl ?_
        refine wp_seq' ?_
        refine wp_region' ?_
        refine ops_ro' rfl (ro_build rfl (bld_struct (cs := Rp.zero.cs) st32 rfl)) rfl ?_
        refine ops_ro' rfl (ro_assign rfl) rfl ?_
        refine ops_eff0 rfl (eff_storeA 0 ag32 rfl rfl rfl rfl rfl (Nat.le_of_ble_eq_true rfl) (warm_zero _)) rfl ?_
        rintro _ _ rfl
        refine ops_nil ?_
        refine Then_normal ?_
        refine wp_ret' ?_
        refine InBlock_ret ?_
        refine Then_ret ?_
        refine' doneS_ret (resv2 rfl (rv_tmp rfl) (rv_cellA ag32 rfl (by first | exact RdN.of_pick 0 rfl rdn_all | exact RdN.of_pick 1 rfl rdn_all | exact RdN.of_pick 2 rfl rdn_all | exact RdN.of_pick 3 rfl rdn_all | exact RdN.of_pick 4 rfl rdn_all | exact RdN.of_pick 5 rfl rdn_all | exact RdN.of_pick 6 rfl rdn_all | exact RdN.of_pick 7 rfl rdn_all | exact RdN.of_pick 8 rfl rdn_all | exact RdN.of_pick 9 rfl rdn_all) rfl)) ?_ ?_
        rotate_left 1
        exact ⟨_, ⟨0, Rp.zero, rfl, by rw [askOf, if_pos (by omega)]; rfl, Rp.zero_in V, rfl⟩, rfl⟩
        exact (SubH.cons 1 rfl (SubH.nil _))
      · replace hg19 := of_decide_eq_false hg19
        refine ops_ro' rfl (ro_move rfl) rfl ?_
        refine ops_ro' rfl (ro_gtr rfl rfl rfl) rfl ?_
        refine ops_ro' rfl (ro_pick rfl rfl) rfl ?_
        refine ops_ro' rfl (ro_assign rfl) rfl ?_
        refine ops_nil ?_
        refine Then_normal ?_
        refine wp_cond' rfl (fun hc8 => ?_) (fun hc8 => ?_)
        · replace hc8 := of_decide_eq_true hc8
          refine wp_seq' ?_
          refine wp_region' ?_
          refine ops_ro' rfl (ro_build rfl (bld_struct (cs := Rp.zero.cs) st32 rfl)) rfl ?_
          refine ops_ro' rfl (ro_assign rfl) rfl ?_
          refine ops_eff0 rfl (eff_storeA 0 ag32 rfl rfl rfl rfl rfl (Nat.le_of_ble_eq_true rfl) (warm_zero _)) rfl ?_
          rintro _ _ rfl
          refine ops_nil ?_
          refine Then_normal ?_
          refine wp_ret' ?_
          refine InBlock_ret ?_
          refine Then_ret ?_
          refine' doneS_ret (resv2 rfl (rv_tmp rfl) (rv_cellA ag32 rfl (by first | exact RdN.of_pick 0 rfl rdn_all | exact RdN.of_pick 1 rfl rdn_all | exact RdN.of_pick 2 rfl rdn_all | exact RdN.of_pick 3 rfl rdn_all | exact RdN.of_pick 4 rfl rdn_all | exact RdN.of_pick 5 rfl rdn_all | exact RdN.of_pick 6 rfl rdn_all | exact RdN.of_pick 7 rfl rdn_all | exact RdN.of_pick 8 rfl rdn_all | exact RdN.of_pick 9 rfl rdn_all) rfl)) ?_ ?_
          rotate_left 1
          exact ⟨_, ⟨0, Rp.zero, rfl, by rw [askOf, if_pos (by omega)]; rfl, Rp.zero_in V, rfl⟩, rfl⟩
          exact (SubH.cons 1 rfl (SubH.nil _))
        · replace hc8 := of_decide_eq_false hc8
          obtain ⟨c, rfl⟩ := Int.eq_ofNat_of_zero_le (show 0 ≤ client by omega)
          have hcl : c < 16 := by omega
          obtain ⟨x, r, hx, hr, hsx⟩ := h.at' hcl
          refine wp_seq' ?_
          refine wp_region' ?_
          refine ops_ro' rfl (ro_move rfl) rfl ?_
          refine ops_ro' rfl (ro_move rfl) rfl ?_
          refine ops_ro' rfl (ro_move rfl) rfl ?_
          refine ops_ro' rfl (ro_nilCheck rfl) rfl ?_
          refine ops_ro' rfl (ro_fieldAddr fa88_0 rfl) rfl ?_
          refine ops_ro' rfl (ro_indexArr Try.underlying85 (fun w => Try.sizeOf3 w) rfl rfl rfl (by omega)) rfl ?_
          refine ops_ro' rfl (ro_load sc3 rfl (Rd.pick 1 rfl (wtab_s hsx hcl))) rfl ?_
          refine ops_ro' rfl (ro_gtr rfl rfl rfl) rfl ?_
          refine ops_ro' rfl (ro_assign rfl) rfl ?_
          refine ops_nil ?_
          refine Then_normal ?_
          refine wp_cond' rfl (fun hc24 => ?_) (fun hc24 => ?_)
          · replace hc24 := of_decide_eq_true hc24
            refine wp_seq' ?_
            refine wp_region' ?_
            refine ops_ro' rfl (ro_build rfl (bld_struct (cs := Rp.zero.cs) st32 rfl)) rfl ?_
            refine ops_ro' rfl (ro_assign rfl) rfl ?_
            refine ops_eff0 rfl (eff_storeA 0 ag32 rfl rfl rfl rfl rfl (Nat.le_of_ble_eq_true rfl) (warm_zero _)) rfl ?_
            rintro _ _ rfl
            refine ops_nil ?_
            refine Then_normal ?_
            refine wp_ret' ?_
            refine InBlock_ret ?_
            refine Then_ret ?_
            refine' doneS_ret (resv2 rfl (rv_tmp rfl) (rv_cellA ag32 rfl (by first | exact RdN.of_pick 0 rfl rdn_all | exact RdN.of_pick 1 rfl rdn_all | exact RdN.of_pick 2 rfl rdn_all | exact RdN.of_pick 3 rfl rdn_all | exact RdN.of_pick 4 rfl rdn_all | exact RdN.of_pick 5 rfl rdn_all | exact RdN.of_pick 6 rfl rdn_all | exact RdN.of_pick 7 rfl rdn_all | exact RdN.of_pick 8 rfl rdn_all | exact RdN.of_pick 9 rfl rdn_all) rfl)) ?_ ?_
            rotate_left 1
            exact ⟨_, ⟨1, Rp.zero, rfl, by rw [askOf_in hx (by omega) (by omega), if_pos (by omega)]; rfl, Rp.zero_in V, rfl⟩, rfl⟩
            exact (SubH.cons 1 rfl (SubH.nil _))
          · replace hc24 := of_decide_eq_false hc24
            refine wp_seq' ?_
            refine wp_region' ?_
            refine ops_ro' rfl (ro_move rfl) rfl ?_
            refine ops_ro' rfl (ro_move rfl) rfl ?_
            refine ops_ro' rfl (ro_move rfl) rfl ?_
            refine ops_ro' rfl (ro_nilCheck rfl) rfl ?_
            refine ops_ro' rfl (ro_fieldAddr fa88_0 rfl) rfl ?_
            refine ops_ro' rfl (ro_indexArr Try.underlying85 (fun w => Try.sizeOf3 w) rfl rfl rfl (by omega)) rfl ?_
            refine ops_ro' rfl (ro_load sc3 rfl (Rd.pick 1 rfl (wtab_s hsx hcl))) rfl ?_
            refine ops_ro' rfl (ro_eql rfl rfl rfl) rfl ?_
            refine ops_ro' rfl (ro_assign rfl) rfl ?_
            refine ops_nil ?_
            refine Then_normal ?_
            refine wp_cond' rfl (fun hc34 => ?_) (fun hc34 => ?_)
            · replace hc34 := of_decide_eq_true hc34
              refine wp_seq' ?_
              refine wp_draw 7 (by kernel_rfl) (Split.all _) ?_
              refine any_ro' (i := 0) (by kernel_rfl) rfl rfl (ro_move rfl) rfl (fun _ _ _ h => h) ?_
              refine any_ro' (i := 1) (by kernel_rfl) rfl rfl (ro_move rfl) rfl (fun _ _ _ h => h) ?_
              refine any_ro' (i := 2) (by kernel_rfl) rfl rfl (ro_nilCheck rfl) rfl (fun _ _ _ h => h) ?_
              refine any_ro' (i := 3) (by kernel_rfl) rfl rfl (ro_fieldAddr fa88_1 rfl) rfl (fun _ _ _ h => h) ?_
              refine any_ro' (i := 4) (by kernel_rfl) rfl rfl (ro_indexArr Try.underlying86 (fun w => Try.sizeOf32 w) rfl rfl rfl (by omega)) rfl (fun _ _ _ h => h) ?_
              refine any_ro' (i := 5) (by kernel_rfl) rfl rfl (ro_loadA ag32 rfl (RdN.of_pick 1 rfl (wtab_r h hr)) rfl) rfl (fun _ _ _ h => h) ?_
              refine any_ro' (i := 6) (by kernel_rfl) rfl rfl (ro_assign rfl) rfl (fun _ _ _ h => h) ?_
              refine any_unlock (m' := 8) (L' := []) (by kernel_rfl) unlock ?_
              simp only [List.cons_append, List.nil_append, List.append_nil]
              refine any_eff0 (i := 7) (by kernel_rfl) rfl rfl (eff_storeA 0 ag32 rfl rfl rfl rfl rfl (Nat.le_of_ble_eq_true rfl) (warm_zero _)) rfl ?_
              rintro _ _ rfl
              refine any_doneH (by kernel_rfl) ?_
              refine Then_normal ?_
              refine wp_ret' ?_
              refine InBlock_ret ?_
              refine Then_ret ?_
              refine' doneS_ret (resv2 rfl (rv_tmp rfl) (rv_cellA ag32 rfl (by first | exact RdN.of_pick 0 rfl rdn_all | exact RdN.of_pick 1 rfl rdn_all | exact RdN.of_pick 2 rfl rdn_all | exact RdN.of_pick 3 rfl rdn_all | exact RdN.of_pick 4 rfl rdn_all | exact RdN.of_pick 5 rfl rdn_all | exact RdN.of_pick 6 rfl rdn_all | exact RdN.of_pick 7 rfl rdn_all | exact RdN.of_pick 8 rfl rdn_all | exact RdN.of_pick 9 rfl rdn_all) rfl)) ?_ ?_
              rotate_left 1
              exact ⟨_, ⟨2, r, rfl, by rw [askOf_in hx (by omega) (by omega), if_neg (by omega), if_pos (by omega)], h.in' r (List.mem_of_getElem? hr), rfl⟩, rfl⟩
              exact (SubH.cons 1 rfl (SubH.nil _))
            · replace hc34 := of_decide_eq_false hc34
              refine wp_skip' ?_
              refine InBlock_normal ?_
              refine Then_normal ?_
              refine wp_seq' ?_
              refine wp_region' ?_
              refine ops_ro' rfl (ro_build rfl (bld_struct (cs := Rp.zero.cs) st32 rfl)) rfl ?_
              refine ops_ro' rfl (ro_assign rfl) rfl ?_
              refine ops_eff0 rfl (eff_storeA 0 ag32 rfl rfl rfl rfl rfl (Nat.le_of_ble_eq_true rfl) (warm_zero _)) rfl ?_
              rintro _ _ rfl
              refine ops_nil ?_
              refine Then_normal ?_
              refine wp_ret' ?_
              refine' doneS_ret (resv2 rfl (rv_tmp rfl) (rv_cellA ag32 rfl (by first | exact RdN.of_pick 0 rfl rdn_all | exact RdN.of_pick 1 rfl rdn_all | exact RdN.of_pick 2 rfl rdn_all | exact RdN.of_pick 3 rfl rdn_all | exact RdN.of_pick 4 rfl rdn_all | exact RdN.of_pick 5 rfl rdn_all | exact RdN.of_pick 6 rfl rdn_all | exact RdN.of_pick 7 rfl rdn_all | exact RdN.of_pick 8 rfl rdn_all | exact RdN.of_pick 9 rfl rdn_all) rfl)) ?_ ?_
              rotate_left 1
              exact ⟨_, ⟨3, Rp.zero, rfl, by rw [askOf_in hx (by omega) (by omega), if_neg (by omega), if_neg (by omega)]; rfl, Rp.zero_in V, rfl⟩, rfl⟩
              exact (SubH.cons 1 rfl (SubH.nil _))

end Go.Proofs.Ytbiohhfibkolgaa
