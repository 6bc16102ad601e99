/-
  Package nego's lists; the law's short, in, same.
-/
import Derived.Test.YtigaolglnnjnmaaDoorNegoB
import Derived.Test.YtigaolglnnjnmaaDoorSized
import Derived.Test.YtigaolglnnjnmaaDoorSxOpen
namespace Go.Proofs.YtigaolglnnjnmaaDoor
open Go.Sx
set_option linter.unusedVariables false
set_option linter.unusedSimpArgs false
set_option maxRecDepth 100000
set_option maxHeartbeats 4000000

abbrev Lt := Slv (List UInt8)
/-- lists, as they lie -/
structure Li where
  cp : Option Addr
  cc : Nat
  ck : List UInt8
  ns : List Lt
  f : Bool
def lcs (c : Value) (ns : List Lt) (f : Bool) : List Value := c :: (ns.map Slv.v ++ [.bool f])
def Li.cs (x : Li) : List Value := lcs (.slice x.cp x.ck.length x.cc) x.ns x.f
abbrev Li.v (x : Li) : Value := .agg x.cs.toArray
def Li.ls (x : Li) : List (List (List UInt8)) := x.ns.map Slv.l
/-- a list that can be read -/
def Lv (V : HProp) (s : Lt) : Prop := Vw V s.v s.l.length (txs s.l) ∧ s.l.length ≤ s.c ∧ s.l.length ≤ 9223372036854775807
structure Li.Ok (V : HProp) (x : Li) : Prop where
  len : x.ns.length = 10
  ck : Vw V (.slice x.cp x.ck.length x.cc) x.ck.length (cel x.ck)
  cc : x.ck.length ≤ x.cc
  cm : x.ck.length ≤ 9223372036854775807
  ns : ∀ s ∈ x.ns, Lv V s
def Lsm (s : Lt) : Prop := s.l.length ≤ 6 ∧ ∀ t ∈ s.l, t.length ≤ 66
structure Li.Sm (x : Li) : Prop where
  ck : x.ck.length ≤ 20
  ns : ∀ s ∈ x.ns, Lsm s
theorem vw_sub {U V : HProp} (h : SubH [U] [V]) {v : Value} {n : Nat} {xs : List Value} (hv : Vw V v n xs) : Vw U v n xs := fun w R s => hv w R (by
  have h1 := h w R (by rwa [St_cons, St_nil, star_emp])
  rwa [St_cons, St_nil, star_emp] at h1)
theorem ml_sub {U V : HProp} (h : SubH [U] [V]) (hv : Ml V) : Ml U := fun w R s => hv w R (by
  have h1 := h w R (by rwa [St_cons, St_nil, star_emp])
  rwa [St_cons, St_nil, star_emp] at h1)
theorem Lv.sub {U V : HProp} (h : SubH [U] [V]) {s : Lt} (hv : Lv V s) : Lv U s := ⟨vw_sub h hv.1, hv.2⟩
theorem Li.Ok.sub {U V : HProp} (h : SubH [U] [V]) {x : Li} (hx : x.Ok V) : x.Ok U := ⟨hx.len, vw_sub h hx.ck, hx.cc, hx.cm, fun s hs => (hx.ns s hs).sub h⟩
theorem lcs_at {c : Value} {ns : List Lt} {f : Bool} {i : Nat} (hi : i < ns.length) : (lcs c ns f)[0 + 1 + i * 1]? = some ns[i].v := by
  rw [show 0 + 1 + i * 1 = i + 1 by omega]
  show (ns.map Slv.v ++ [Value.bool f])[i]? = _
  rw [List.getElem?_append_left (by rw [List.length_map]; exact hi), List.getElem?_map, List.getElem?_eq_getElem hi]; rfl
theorem lcs_set {c : Value} {ns : List Lt} {f : Bool} {i : Nat} (s : Lt) (hi : i < ns.length) : (lcs c ns f).set (0 + 1 + i * 1) s.v = lcs c (ns.set i s) f := by
  rw [show 0 + 1 + i * 1 = i + 1 by omega]
  show c :: ((ns.map Slv.v ++ [Value.bool f]).set i s.v) = _
  rw [List.set_append_left _ _ (by rw [List.length_map]; exact hi), ← List.map_set]; rfl
theorem lcs_len {c : Value} {ns : List Lt} {f : Bool} (h : ns.length = 10) : (lcs c ns f).length = 12 := by simp [lcs, h]
theorem lcs_one {c : Value} {ns : List Lt} {f : Bool} (h : c.oneCell' = true) : (lcs c ns f).all Value.oneCell' = true := by
  unfold lcs
  rw [List.all_cons, h, List.all_append, Bool.true_and, Bool.and_eq_true]
  exact ⟨List.all_eq_true.2 fun x hx => by obtain ⟨y, _, rfl⟩ := List.mem_map.1 hx; rfl, rfl⟩
theorem over_all {cs vs : List Value} (h : cs.length = vs.length) : over cs 0 vs = vs := by
  unfold over; rw [List.take_zero, List.nil_append, List.drop_of_length_le (by omega), List.append_nil]
theorem few2_sm {l : List (List UInt8)} : (few2 (l.take 6) 66).length ≤ 6 ∧ ∀ t ∈ few2 (l.take 6) 66, t.length ≤ 66 := by
  refine ⟨by rw [few2, List.length_map, List.length_take]; omega, fun t ht => ?_⟩
  rw [few2, List.mem_map] at ht
  obtain ⟨y, _, rfl⟩ := ht
  rw [List.length_take]; omega
/-- so many lists are short by now -/
structure Up (V U : HProp) (o ns : List Lt) (i : Nat) : Prop where
  len : ns.length = 10
  sub : SubH [U] [V]
  rest : ∀ j, i ≤ j → ns[j]? = o[j]?
  done : ∀ j s, j < i → ns[j]? = some s → Lv U s ∧ Lsm s
theorem Up.zero {V : HProp} {o : List Lt} (h : o.length = 10) : Up V V o o 0 := ⟨h, SubH.refl _, fun _ _ => rfl, fun _ _ h => by omega⟩
theorem Up.next {V U U' : HProp} {o ns : List Lt} {i : Nat} (h : Up V U o ns i) (hi : i < 10) (hs : SubH [U'] [U]) (s : Lt) (hv : Lv U' s) (hm : Lsm s) : Up V U' o (ns.set i s) (i + 1) := by
  refine ⟨by rw [List.length_set]; exact h.len, hs.trans h.sub, fun j hj => ?_, fun j t hj ht => ?_⟩
  · rw [List.getElem?_set_ne (by omega)]; exact h.rest j (by omega)
  · by_cases e : i = j
    · subst e
      rw [List.getElem?_set_self (by rw [h.len]; exact hi)] at ht; cases ht
      exact ⟨hv, hm⟩
    · rw [List.getElem?_set_ne e] at ht
      have h1 := h.done j t (by omega) ht
      exact ⟨h1.1.sub hs, h1.2⟩
theorem Up.all {V U : HProp} {o ns : List Lt} (h : Up V U o ns 10) : ∀ s ∈ ns, Lv U s ∧ Lsm s := fun s hs => by
  obtain ⟨j, h1⟩ := List.mem_iff_getElem?.1 hs
  have h2 := (List.getElem?_eq_some_iff.1 h1).1
  exact h.done j s (by have := h.len; omega) h1
theorem ten {α : Type} : ∀ {l : List α}, l.length = 10 → ∃ a0 a1 a2 a3 a4 a5 a6 a7 a8 a9, l = [a0, a1, a2, a3, a4, a5, a6, a7, a8, a9]
  | [a0, a1, a2, a3, a4, a5, a6, a7, a8, a9], _ => ⟨a0, a1, a2, a3, a4, a5, a6, a7, a8, a9, rfl⟩
theorem ops_pk {n : Nat} {ops : Array Oper} {l : List Oper} {Γ : Env} {H : List HProp} {Q : Post} (k : Nat) (h : ∀ U, U = St (H.drop k) → Ops Tryd.prog n ops l Γ (H.take k ++ [U]) Q) : Ops Tryd.prog n ops l Γ H Q :=
  ops_sub' (fun w F s => by
    rw [← List.take_append_drop k H, St_append, star_assoc] at s
    rw [St_append, star_assoc, St_cons, St_nil, star_emp]; exact s) (h _ rfl)
theorem ops_pkf {n : Nat} {ops : Array Oper} {l : List Oper} {Γ : Env} {A U : HProp} {L : List HProp} {Q : Post} (h : ∀ W, W = St [A, U] → Ops Tryd.prog n ops l Γ (L ++ [W]) Q) : Ops Tryd.prog n ops l Γ (A :: (L ++ [U])) Q :=
  ops_sub' (fun w F s => by
    rw [St_cons, St_append, St_cons, St_nil, star_emp, star_assoc, star_assoc] at s
    rw [St_append, star_assoc, St_cons, St_nil, star_emp, St_cons, St_cons, St_nil, star_emp, star_assoc, star_left_comm]; exact s) (h _ rfl)
theorem lv_row {U : HProp} {p : Option Addr} {c : Nat} {l : List (List UInt8)} (hc : l.length ≤ c) (hm : l.length ≤ 9223372036854775807) : Lv (St [row 9 1 (.slice p l.length c) l.length (txs l), U]) ⟨p, c, l⟩ := ⟨Vw.pick 0 rfl Vw.row, hc, hm⟩
theorem sub_pk {H L : List HProp} (h : SubH H L) : SubH [St H] L := fun w F s => h w F (by rw [St_cons, St_nil, star_emp] at s; exact s)


theorem short9_spec (V : HProp) (x : Li) (hx : x.Ok V) : Tri Tryd.prog 23 [x.v] [V] (fun v H' => ∃ (U : HProp) (y : Li), v = y.v ∧ y.Ok U ∧ y.Sm ∧ SubH [U] [V] ∧ H' = [U]) := by
  refine tri_of_wpS Tryd.func23 rfl Tryd.ntmps23 (by simp) ?_
  refine wp_seq' ?_
  refine wp_region' ?_
  refine ops_eff' rfl (eff_box rfl) rfl ?_
  rintro _ _ ⟨b1, rfl, rfl⟩
  refine ops_eff' rfl (eff_alloc z46) rfl ?_
  rintro _ _ ⟨b2, rfl, rfl⟩
  refine ops_nil ?_
  refine Then_normal ?_
  refine wp_seq' ?_
  refine wp_region' ?_
  refine ops_ro' rfl (ro_fieldAddr fa46_0 rfl) rfl ?_
  refine ops_ro' rfl (ro_load sc22 rfl (Rd.pick 1 rfl (Rd.own rfl))) rfl ?_
  refine ops_eff' rfl (eff_call Tryd.call36 rfl rfl (by repeat (first | exact Split.nil _ | apply Split.cons 0 rfl | apply Split.cons 1 rfl | apply Split.cons 2 rfl | apply Split.cons 3 rfl | apply Split.cons 4 rfl | apply Split.cons 5 rfl | apply Split.cons 6 rfl | apply Split.cons 7 rfl | apply Split.cons 8 rfl | apply Split.cons 9 rfl | apply Split.cons 10 rfl | apply Split.cons 11 rfl)) (kCut V x.cp x.cc x.ck 20 hx.ck hx.cc)) rfl ?_
  rintro _ H' ⟨_, ⟨_, ⟨p6, c6, rfl, hz0, hcz, rfl⟩, rfl⟩, hH⟩
  simp only [List.cons_append, List.nil_append, List.eraseIdx_cons_zero, List.eraseIdx_cons_succ, List.set_cons_zero, List.set_cons_succ] at hH
  subst hH
  refine ops_ro' rfl (ro_fieldAddr fa46_0 rfl) rfl ?_
  refine ops_eff0 rfl (eff_store (cs := lcs (.slice x.cp x.ck.length x.cc) x.ns x.f) 2 sc22 rfl rfl rfl rfl (by show 0 < (lcs _ _ _).length; rw [lcs_len hx.len]; omega) (warm_zero _)) rfl ?_
  rintro _ _ rfl
  simp only [List.set_cons_zero, List.set_cons_succ]
  refine ops_nil ?_
  refine Then_normal ?_
  refine wp_seq' ?_
  refine wp_seq' ?_
  refine wp_region' ?_
  refine ops_ro' rfl (ro_assign rfl) rfl ?_
  refine ops_nil ?_
  refine Then_normal ?_
  refine wp_block' ?_
  refine wp_loopK 3 (fun m Δ LL => ∃ (i : Nat) (ns : List Lt) (U : HProp), (i + m = 10 ∧ Up V U x.ns ns i) ∧ Δ = [(3, .int .i64 (i : Nat))] ∧ LL = [own b2 (.cells ([.slice none 0 0, .slice none 0 0, .slice none 0 0, .slice none 0 0, .slice none 0 0, .slice none 0 0, .slice none 0 0, .slice none 0 0, .slice none 0 0, .slice none 0 0, .slice none 0 0, .bool false] : List Value).toArray 46 (0, 0)), own b1 (.cells (lcs (.slice p6 (x.ck.take 20).length c6) ns x.f).toArray 46 (0, 0)), U]) (m := 10) (Has.cons (k := 1) rfl (Has.cons (k := 2) rfl (Has.nil _))) (kept ⟨0, x.ns, V, ⟨rfl, Up.zero hx.len⟩, rfl, rfl⟩ (by repeat (first | exact Has.nil _ | refine Has.cons rfl ?_)) (by repeat (first | exact Has.nil _ | refine Has.cons rfl ?_)) (by repeat (first | exact SubH.nil _ | refine SubH.cons 0 rfl ?_ | refine SubH.cons 1 rfl ?_ | refine SubH.cons 2 rfl ?_ | refine SubH.cons 3 rfl ?_ | refine SubH.cons 4 rfl ?_ | refine SubH.cons 5 rfl ?_ | refine SubH.cons 6 rfl ?_ | refine SubH.cons 7 rfl ?_ | refine SubH.cons 8 rfl ?_ | refine SubH.cons 9 rfl ?_ | refine SubH.cons 10 rfl ?_ | refine SubH.cons 11 rfl ?_ | refine SubH.cons 12 rfl ?_ | refine SubH.cons 13 rfl ?_ | refine SubH.rown ?_))) ?_
  rintro m Δ LL ⟨i, ns, U, ⟨hm, hup⟩, rfl, rfl⟩
  simp only [List.cons_append, List.nil_append]
  refine wp_seq' ?_
  refine wp_seq' ?_
  refine wp_region' ?_
  refine ops_ro' rfl (ro_move rfl) rfl ?_
  refine ops_ro' rfl (ro_lss rfl rfl rfl) rfl ?_
  refine ops_nil ?_
  refine Then_normal ?_
  refine wp_cond' rfl (fun hc9 => ?_) (fun hc9 => ?_)
  · replace hc9 := of_decide_eq_true hc9
    refine wp_skip' ?_
    refine Then_normal ?_
    refine wp_seq' ?_
    refine wp_block' ?_
    have hln := hup.len
    have hi : i < ns.length := by omega
    have hni := (hup.rest i (Nat.le_refl _)).symm
    rw [List.getElem?_eq_getElem hi] at hni
    have hli := (hx.ns ns[i] (List.mem_of_getElem? hni)).sub hup.sub
    refine wp_region' ?_
    refine ops_ro' rfl (ro_move rfl) rfl ?_
    refine ops_ro' rfl (ro_move rfl) rfl ?_
    refine ops_ro' rfl (ro_fieldAddr fa46_1 rfl) rfl ?_
    refine ops_ro' rfl (ro_indexArr Tryd.underlying44 (fun w => Tryd.sizeOf24 w) rfl rfl rfl (by omega)) rfl ?_
    refine ops_ro' rfl (ro_load sc24 rfl (Rd.pick 1 rfl (Rd.own (lcs_at hi)))) rfl ?_
    refine ops_eff' rfl (eff_callM (Pre := []) Tryd.call21 rfl rfl (Split.nil _) (kFew _ _ _ ns[i].l (by first | exact (Vw.pick 0 rfl hli.1) | exact (Vw.pick 1 rfl hli.1) | exact (Vw.pick 2 rfl hli.1) | exact (Vw.pick 3 rfl hli.1) | exact Vw.pick 0 rfl Vw.row | exact Vw.pick 1 rfl Vw.row | exact Vw.pick 2 rfl Vw.row | exact Vw.pick 3 rfl Vw.row | exact Vw.nil _ | exact Vw.empty _ _) 6 66 (by omega) hli.2.2)) rfl ?_
    rintro _ H' ⟨_, ⟨p17, c17, rfl, rfl⟩, hH⟩
    simp only [List.cons_append, List.nil_append, List.eraseIdx_cons_zero, List.eraseIdx_cons_succ, List.set_cons_zero, List.set_cons_succ] at hH
    subst hH
    refine ops_ro' rfl (ro_fieldAddr fa46_1 rfl) rfl ?_
    refine ops_ro' rfl (ro_indexArr Tryd.underlying44 (fun w => Tryd.sizeOf24 w) rfl rfl rfl (by omega)) rfl ?_
    refine ops_eff0 rfl (eff_store 2 sc24 rfl rfl rfl rfl (by rw [lcs_len hln]; omega) (warm_zero _)) rfl ?_
    rintro _ _ rfl
    simp only [List.set_cons_zero, List.set_cons_succ]
    refine ops_know (fun w F s => row_caps 0 rfl s) ?_
    intro hcw
    rw [show (lcs (.slice p6 (x.ck.take 20).length c6) ns x.f).set (0 + 1 + i * 1) (.slice p17 (few2 (ns[i].l.take 6) 66).length c17) = _ from lcs_set (⟨p17, c17, few2 (ns[i].l.take 6) 66⟩ : Lt) hi]
    refine ops_pkf (L := [_, _]) fun U2 hU2 => ?_
    simp only [List.cons_append, List.nil_append]
    have hup2 := hup.next (U' := U2) (by omega) (by subst hU2; exact sub_pk (SubH.cons 1 rfl (SubH.nil _))) ⟨p17, c17, few2 (ns[i].l.take 6) 66⟩ (by subst hU2; exact lv_row hcw (Nat.le_trans few2_sm.1 (by decide))) few2_sm
    clear hU2
    refine ops_nil ?_
    refine InBlock_normal ?_
    refine Then_normal ?_
    refine wp_region' ?_
    refine ops_ro' rfl (ro_move rfl) rfl ?_
    refine ops_ro' rfl (ro_add rfl rfl (wrap_inc (by omega))) rfl ?_
    refine ops_ro' rfl (ro_assign rfl) rfl ?_
    refine ops_nil ?_
    refine Then_normal ?_
    refine back (m - 1) (by omega) (kept ⟨i + 1, ns.set i ⟨p17, c17, few2 (ns[i].l.take 6) 66⟩, U2, ⟨by omega, hup2⟩, rfl, rfl⟩ ?_ ?_ ?_)
    · exact (by repeat (first | exact Has.nil _ | refine Has.cons rfl ?_))
    · exact (by repeat (first | exact Has.nil _ | refine Has.cons rfl ?_))
    · exact SubH.refl _
  · replace hc9 := of_decide_eq_false hc9
    have hln := hup.len
    obtain rfl : i = 10 := by omega
    refine wp_exit' ?_
    refine Then_exit ?_
    refine Then_exit ?_
    refine InBlock_here ?_
    refine Then_normal ?_
    refine wp_seq' ?_
    refine wp_region' ?_
    refine ops_ro' rfl (ro_loadA ag46 rfl (RdN.of_pick 1 rfl rdn_all) (lcs_len hln)) rfl ?_
    refine ops_eff0 rfl (eff_storeA 0 ag46 rfl rfl (lcs_len hln) (lcs_one rfl) rfl (by rw [lcs_len hln]; decide) (warm_zero _)) rfl ?_
    rintro _ _ rfl
    simp only [List.set_cons_zero, List.set_cons_succ]
    rw [over_all (by rw [lcs_len hln]; rfl)]
    refine ops_nil ?_
    refine Then_normal ?_
    refine wp_ret' ?_
    refine' doneS_ret (resv1 rfl (rv_cellA ag46 rfl (RdN.of_pick 0 rfl rdn_all) (lcs_len hln))) ?_ ?_
    rotate_left 1
    exact ⟨U, ⟨p6, c6, x.ck.take 20, ns, x.f⟩, rfl, ⟨hln, vw_sub hup.sub hz0, hcz, by rw [List.length_take]; omega, fun s hs => (hup.all s hs).1⟩, ⟨by rw [List.length_take]; omega, fun s hs => (hup.all s hs).2⟩, hup.sub, rfl⟩
    exact (SubH.cons 2 rfl (SubH.nil _))


theorem in9_spec (x : Li) (hx : x.ns.length = 10) : Tri Tryd.prog 30 [x.v] [] (fun v H' => v = x.v ∧ H' = []) := by
  obtain ⟨cp, cc, ck, ns, f⟩ := x
  obtain ⟨a0, a1, a2, a3, a4, a5, a6, a7, a8, a9, rfl⟩ := ten hx
  refine tri_of_wpS Tryd.func30 rfl Tryd.ntmps30 (by simp) ?_
  refine wp_seq' ?_
  refine wp_region' ?_
  refine ops_eff' rfl (eff_box rfl) rfl ?_
  rintro _ _ ⟨b1, rfl, rfl⟩
  refine ops_eff' rfl (eff_alloc z56) rfl ?_
  rintro _ _ ⟨b2, rfl, rfl⟩
  refine ops_nil ?_
  refine Then_normal ?_
  refine wp_seq' ?_
  refine wp_region' ?_
  refine ops_ro' rfl (ro_fieldAddr fa46_0 rfl) rfl ?_
  refine ops_ro' rfl (ro_load sc22 rfl (Rd.pick 1 rfl (Rd.own rfl))) rfl ?_
  refine ops_ro' rfl (ro_fieldAddr fa46_1 rfl) rfl ?_
  refine ops_ro' rfl (ro_loadA ag44 rfl (RdN.of_pick 1 rfl (rdn_sub 10)) rfl) rfl ?_
  refine ops_ro' rfl (ro_fieldAddr fa46_2 rfl) rfl ?_
  refine ops_ro' rfl (ro_load sc4 rfl (Rd.pick 1 rfl (Rd.own rfl))) rfl ?_
  refine ops_ro' rfl (ro_build rfl (bld_struct (cs := [_, _, _, _, _, _, _, _, _, _, _, _]) st56 rfl)) rfl ?_
  refine ops_eff0 rfl (eff_storeA 0 ag56 rfl rfl rfl rfl rfl (Nat.le_of_ble_eq_true rfl) (warm_zero _)) rfl ?_
  rintro _ _ rfl
  refine ops_nil ?_
  refine Then_normal ?_
  refine wp_ret' ?_
  refine' doneS_ret (resv1 rfl (rv_cellA ag56 rfl (by first | exact RdN.of_pick 0 rfl rdn_all | exact RdN.of_pick 1 rfl rdn_all | exact RdN.of_pick 2 rfl rdn_all | exact RdN.of_pick 3 rfl rdn_all) rfl)) ?_ ?_
  rotate_left 1
  exact ⟨rfl, rfl⟩
  exact (SubH.nil _)


theorem lcs_last {c : Value} {ns : List Lt} {f : Bool} (h : ns.length = 10) : (lcs c ns f)[0 + 11]? = some (.bool f) := by
  show (ns.map Slv.v ++ [Value.bool f])[10]? = _
  rw [List.getElem?_append_right (by rw [List.length_map]; omega), List.length_map, h]; rfl
theorem same9_spec (V : HProp) (a b : Li) (ha : a.Ok V) (hb : b.Ok V) (hsm : ∀ s ∈ a.ns, s.l.length ≤ 140737488355328) (he : a.ls = b.ls) (hc : a.ck = b.ck) (hf : a.f = b.f) : Tri Tryd.prog 29 [a.v, b.v] [V] (fun v H' => v = .bool true ∧ H' = [V]) := by
  refine tri_of_wpS Tryd.func29 rfl Tryd.ntmps29 (by simp) ?_
  refine wp_seq' ?_
  refine wp_region' ?_
  refine ops_eff' rfl (eff_box rfl) rfl ?_
  rintro _ _ ⟨b2, rfl, rfl⟩
  refine ops_eff' rfl (eff_box rfl) rfl ?_
  rintro _ _ ⟨b3, rfl, rfl⟩
  refine ops_ro' rfl (ro_assign rfl) rfl ?_
  refine ops_nil ?_
  refine Then_normal ?_
  refine wp_seq' ?_
  refine wp_seq' ?_
  refine wp_region' ?_
  refine ops_ro' rfl (ro_assign rfl) rfl ?_
  refine ops_nil ?_
  refine Then_normal ?_
  refine wp_block' ?_
  refine wp_loopK 2 (fun m Δ LL => ∃ (i : Nat), (i + m = 10) ∧ Δ = [(5, .int .i64 (i : Nat))] ∧ LL = [own b3 (.cells (lcs (.slice b.cp b.ck.length b.cc) b.ns b.f).toArray 56 (0, 0)), own b2 (.cells (lcs (.slice a.cp a.ck.length a.cc) a.ns a.f).toArray 46 (0, 0)), V]) (m := 10) (Has.cons (k := 2) rfl (Has.cons (k := 3) rfl (Has.nil _))) (kept ⟨0, rfl, rfl, rfl⟩ (by repeat (first | exact Has.nil _ | refine Has.cons rfl ?_)) (by repeat (first | exact Has.nil _ | refine Has.cons rfl ?_)) (by repeat (first | exact SubH.nil _ | refine SubH.cons 0 rfl ?_ | refine SubH.cons 1 rfl ?_ | refine SubH.cons 2 rfl ?_ | refine SubH.cons 3 rfl ?_ | refine SubH.cons 4 rfl ?_ | refine SubH.cons 5 rfl ?_ | refine SubH.cons 6 rfl ?_ | refine SubH.cons 7 rfl ?_ | refine SubH.cons 8 rfl ?_ | refine SubH.cons 9 rfl ?_ | refine SubH.cons 10 rfl ?_ | refine SubH.cons 11 rfl ?_ | refine SubH.cons 12 rfl ?_ | refine SubH.cons 13 rfl ?_ | refine SubH.rown ?_))) ?_
  rintro m Δ LL ⟨i, hm, rfl, rfl⟩
  simp only [List.cons_append, List.nil_append]
  refine wp_seq' ?_
  refine wp_seq' ?_
  refine wp_region' ?_
  refine ops_ro' rfl (ro_move rfl) rfl ?_
  refine ops_ro' rfl (ro_lss rfl rfl rfl) rfl ?_
  refine ops_nil ?_
  refine Then_normal ?_
  refine wp_cond' rfl (fun hc7 => ?_) (fun hc7 => ?_)
  · replace hc7 := of_decide_eq_true hc7
    refine wp_skip' ?_
    refine Then_normal ?_
    refine wp_seq' ?_
    refine wp_block' ?_
    refine wp_seq' ?_
    have hla := ha.len
    have hlb := hb.len
    have hi : i < a.ns.length := by omega
    have hi2 : i < b.ns.length := by omega
    have hva := ha.ns _ (List.getElem_mem hi)
    have hvb := hb.ns _ (List.getElem_mem hi2)
    have hss := hsm _ (List.getElem_mem hi)
    have hee : a.ns[i].l = b.ns[i].l := by
      have h1 := congrArg (fun z => z[i]?) he
      simp only [Li.ls, List.getElem?_map, List.getElem?_eq_getElem hi, List.getElem?_eq_getElem hi2, Option.map_some] at h1
      injection h1
    refine wp_draw 8 (by kernel_rfl) (Split.all _) ?_
    refine any_ro' (i := 0) (by kernel_rfl) rfl rfl (ro_move rfl) rfl (fun _ _ _ h => h) ?_
    refine any_ro' (i := 1) (by kernel_rfl) rfl rfl (ro_fieldAddr fa46_1 rfl) rfl (fun _ _ _ h => h) ?_
    refine any_ro' (i := 2) (by kernel_rfl) rfl rfl (ro_indexArr Tryd.underlying44 (fun w => Tryd.sizeOf24 w) rfl rfl rfl (by omega)) rfl (fun _ _ _ h => h) ?_
    refine any_ro' (i := 3) (by kernel_rfl) rfl rfl (ro_load sc24 rfl (Rd.pick 1 rfl (Rd.own (lcs_at hi)))) rfl (fun _ _ _ h => h) ?_
    refine any_ro' (i := 4) (by kernel_rfl) rfl rfl (ro_move rfl) rfl (fun _ _ _ h => h) ?_
    refine any_ro' (i := 5) (by kernel_rfl) rfl rfl (ro_fieldAddr fa56_1 rfl) rfl (fun _ _ _ h => h) ?_
    refine any_ro' (i := 6) (by kernel_rfl) rfl rfl (ro_indexArr Tryd.underlying44 (fun w => Tryd.sizeOf24 w) rfl rfl rfl (by omega)) rfl (fun _ _ _ h => h) ?_
    refine any_ro' (i := 7) (by kernel_rfl) rfl rfl (ro_load sc24 rfl (Rd.pick 0 rfl (Rd.own (lcs_at hi2)))) rfl (fun _ _ _ h => h) ?_
    refine any_unlock (m' := 10) (L' := []) (by kernel_rfl) unlock ?_
    simp only [List.cons_append, List.nil_append, List.append_nil]
    refine any_eff' (i := 8) (by kernel_rfl) rfl rfl (eff_callM (Pre := []) Tryd.call15 rfl rfl (Split.nil _) (ktexts_spec _ a.ns[i].l b.ns[i].l _ _ _ _ (by first | exact (Vw.pick 0 rfl hva.1) | exact (Vw.pick 1 rfl hva.1) | exact (Vw.pick 2 rfl hva.1) | exact (Vw.pick 3 rfl hva.1) | exact (Vw.pick 4 rfl hva.1) | exact (Vw.pick 0 rfl hvb.1) | exact (Vw.pick 1 rfl hvb.1) | exact (Vw.pick 2 rfl hvb.1) | exact (Vw.pick 3 rfl hvb.1) | exact (Vw.pick 4 rfl hvb.1) | exact (Vw.pick 0 rfl ha.ck) | exact (Vw.pick 1 rfl ha.ck) | exact (Vw.pick 2 rfl ha.ck) | exact (Vw.pick 3 rfl ha.ck) | exact (Vw.pick 4 rfl ha.ck) | exact (Vw.pick 0 rfl hb.ck) | exact (Vw.pick 1 rfl hb.ck) | exact (Vw.pick 2 rfl hb.ck) | exact (Vw.pick 3 rfl hb.ck) | exact (Vw.pick 4 rfl hb.ck) | exact Vw.pick 0 rfl Vw.row | exact Vw.pick 1 rfl Vw.row | exact Vw.pick 2 rfl Vw.row | exact Vw.pick 3 rfl Vw.row | exact Vw.pick 4 rfl Vw.row | exact Vw.nil _ | exact Vw.empty _ _) (by first | exact (Vw.pick 0 rfl hva.1) | exact (Vw.pick 1 rfl hva.1) | exact (Vw.pick 2 rfl hva.1) | exact (Vw.pick 3 rfl hva.1) | exact (Vw.pick 4 rfl hva.1) | exact (Vw.pick 0 rfl hvb.1) | exact (Vw.pick 1 rfl hvb.1) | exact (Vw.pick 2 rfl hvb.1) | exact (Vw.pick 3 rfl hvb.1) | exact (Vw.pick 4 rfl hvb.1) | exact (Vw.pick 0 rfl ha.ck) | exact (Vw.pick 1 rfl ha.ck) | exact (Vw.pick 2 rfl ha.ck) | exact (Vw.pick 3 rfl ha.ck) | exact (Vw.pick 4 rfl ha.ck) | exact (Vw.pick 0 rfl hb.ck) | exact (Vw.pick 1 rfl hb.ck) | exact (Vw.pick 2 rfl hb.ck) | exact (Vw.pick 3 rfl hb.ck) | exact (Vw.pick 4 rfl hb.ck) | exact Vw.pick 0 rfl Vw.row | exact Vw.pick 1 rfl Vw.row | exact Vw.pick 2 rfl Vw.row | exact Vw.pick 3 rfl Vw.row | exact Vw.pick 4 rfl Vw.row | exact Vw.nil _ | exact Vw.empty _ _) hss)) rfl ?_
    rintro _ H' ⟨_, ⟨rfl, rfl⟩, hH⟩
    simp only [List.cons_append, List.nil_append, List.eraseIdx_cons_zero, List.eraseIdx_cons_succ, List.set_cons_zero, List.set_cons_succ] at hH
    subst hH
    rw [decide_eq_true hee]
    refine any_ro' (i := 9) (by kernel_rfl) rfl rfl (ro_not rfl rfl) rfl (fun _ _ _ h => h) ?_
    refine any_doneH (by kernel_rfl) ?_
    refine Then_normal ?_
    refine wp_condF rfl ?_
    refine wp_skip' ?_
    refine InBlock_normal ?_
    refine Then_normal ?_
    refine wp_region' ?_
    refine ops_ro' rfl (ro_move rfl) rfl ?_
    refine ops_ro' rfl (ro_add rfl rfl (wrap_inc (by omega))) rfl ?_
    refine ops_ro' rfl (ro_assign rfl) rfl ?_
    refine ops_nil ?_
    refine Then_normal ?_
    refine back (m - 1) (by omega) (kept ⟨i + 1, by omega, rfl, rfl⟩ ?_ ?_ ?_)
    · exact (by repeat (first | exact Has.nil _ | refine Has.cons rfl ?_))
    · exact (by repeat (first | exact Has.nil _ | refine Has.cons rfl ?_))
    · exact SubH.refl _
  · replace hc7 := of_decide_eq_false hc7
    refine wp_exit' ?_
    refine Then_exit ?_
    refine Then_exit ?_
    refine InBlock_here ?_
    refine Then_normal ?_
    refine wp_seq' ?_
    refine wp_region' ?_
    refine ops_ro' rfl (ro_fieldAddr fa46_0 rfl) rfl ?_
    refine ops_ro' rfl (ro_load sc22 rfl (Rd.pick 1 rfl (Rd.own rfl))) rfl ?_
    refine ops_ro' rfl (ro_toStr Tryd.underlying22 Tryd.underlying5 Tryd.underlying9 rfl (Vw.pick 2 rfl ha.ck) rfl) rfl ?_
    refine ops_ro' rfl (ro_fieldAddr fa56_0 rfl) rfl ?_
    refine ops_ro' rfl (ro_load sc22 rfl (Rd.pick 0 rfl (Rd.own rfl))) rfl ?_
    refine ops_ro' rfl (ro_toStr Tryd.underlying22 Tryd.underlying5 Tryd.underlying9 rfl (Vw.pick 2 rfl hb.ck) rfl) rfl ?_
    refine ops_ro' rfl (ro_eqlS rfl rfl (decide_eq_true hc)) rfl ?_
    refine ops_ro' rfl (ro_move (v := .bool true) rfl) rfl ?_
    refine ops_ro' rfl (ro_fieldAddr fa46_2 rfl) rfl ?_
    refine ops_ro' rfl (ro_load sc4 rfl (Rd.pick 1 rfl (Rd.own (lcs_last ha.len)))) rfl ?_
    refine ops_ro' rfl (ro_fieldAddr fa56_2 rfl) rfl ?_
    refine ops_ro' rfl (ro_load sc4 rfl (Rd.pick 0 rfl (Rd.own (lcs_last hb.len)))) rfl ?_
    refine ops_ro' rfl (ro_eql_bool Tryd.underlying4 rfl rfl (c := true) (by rw [hf]; simp)) rfl ?_
    refine ops_ro' rfl (ro_pick rfl rfl) rfl ?_
    refine ops_ro' rfl (ro_assign rfl) rfl ?_
    refine ops_nil ?_
    refine Then_normal ?_
    refine wp_ret' ?_
    refine' doneS_ret (res1 rfl rfl) ?_ ?_
    rotate_left 1
    exact ⟨rfl, rfl⟩
    exact (SubH.cons 2 rfl (SubH.nil _))

end Go.Proofs.YtigaolglnnjnmaaDoor
