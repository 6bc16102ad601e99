/-
  Package nego: lists are read.
-/
import Derived.Test.YtigaolglnnjnmaaDoorNgE
namespace Go.Proofs.YtigaolglnnjnmaaDoor
open Go.Sx
set_option linter.unusedVariables false
set_option linter.unusedSimpArgs false
set_option maxRecDepth 100000
set_option maxHeartbeats 4000000

def zsL : List Value := [.slice none 0 0, .slice none 0 0, .slice none 0 0, .slice none 0 0, .slice none 0 0, .slice none 0 0, .slice none 0 0, .slice none 0 0, .slice none 0 0, .slice none 0 0, .slice none 0 0, .bool false]
/-- i lists are read -/
structure Rg (U : HProp) (pc : Option Addr) (cc : Nat) (ck : List UInt8) (q2 : R) (i : Nat) (q : R) (ns : List Lt) : Prop where
  len : ns.length = 10
  qe : q = (rds i q2).1
  good : q.Good
  ls : (ns.take i).map Slv.l = (rds i q2).2
  ok : ∀ s ∈ ns.take i, Lv U s
  ckv : Vw U (.slice pc ck.length cc) ck.length (cel ck)
theorem Rg.zero {U : HProp} {pc : Option Addr} {cc : Nat} {ck : List UInt8} {q2 : R} (hg : q2.Good) (hc : Vw U (.slice pc ck.length cc) ck.length (cel ck)) : Rg U pc cc ck q2 0 q2 (List.replicate 10 Slv.nil) :=
  ⟨rfl, rfl, hg, rfl, (fun s hs => by cases hs), hc⟩
theorem take_set {α : Type} {l : List α} {i : Nat} (hi : i < l.length) (a : α) : (l.set i a).take (i + 1) = l.take i ++ [a] := by
  rw [List.take_succ_eq_append_getElem (by rw [List.length_set]; exact hi), List.getElem_set_self, List.take_set, List.set_eq_of_length_le (by rw [List.length_take]; omega)]
theorem Rg.next {U U' : HProp} {pc : Option Addr} {cc : Nat} {ck : List UInt8} {q2 : R} {i : Nat} {q : R} {ns : List Lt} (h : Rg U pc cc ck q2 i q ns) (hi : i < 10) (hs : SubH [U'] [U]) (s : Lt) (hv : Lv U' s) (he : s.l = q.lst.2) : Rg U' pc cc ck q2 (i + 1) q.lst.1 (ns.set i s) := by
  have hl : i < ns.length := by rw [h.len]; exact hi
  refine ⟨by rw [List.length_set]; exact h.len, by rw [rds, ← h.qe], R.good_lst h.good, ?_, fun t ht => ?_, vw_sub hs h.ckv⟩
  · rw [take_set hl, List.map_append, h.ls, rds, ← h.qe, ← he]; rfl
  · rw [take_set hl, List.mem_append, List.mem_singleton] at ht
    rcases ht with ht | ht
    · exact (h.ok t ht).sub hs
    · rw [ht]; exact hv
theorem lst_len (r : R) : r.lst.2.length ≤ 1001 := by
  have h1 := text_le r 1000
  rw [if_neg (by decide)] at h1
  unfold R.lst
  split
  · exact Nat.zero_le _
  · split
    · have := parts_length_le 44 (r.text 1000).2
      show (parts 44 (r.text 1000).2).length ≤ 1001
      omega
    · exact Nat.zero_le _
theorem lcs_setF {c : Value} {ns : List Lt} {f0 : Bool} (f : Bool) (h : ns.length = 10) : (lcs c ns f0).set (0 + 11) (.bool f) = lcs c ns f := by
  show c :: ((ns.map Slv.v ++ [Value.bool f0]).set 10 (.bool f)) = _
  rw [List.set_append_right _ _ (by rw [List.length_map]; omega), List.length_map, h]; rfl
theorem take_lenN {r q : R} {l : List UInt8} {n : Nat} (h : r.take (n : Int) = (q, l)) : l.length ≤ n := by
  have := take_len r (n : Int)
  rw [h] at this
  simpa using this
theorem dec_def {b ck : List UInt8} {q1 q2 : R} {n1 : Nat} (h1 : (R.new b).get 1 = (q1, n1)) (h2 : q1.take 16 = (q2, ck)) :
    decL b = if n1 = 20 ∧ (((rds 10 q2).1.get 1).1.get 4).1.fin.1 = 0 then some (ck, (rds 10 q2).2, decide ((((rds 10 q2).1.get 1).2 : Int) ≠ 0)) else none := by
  unfold decL decR decV
  rw [h1]; simp only
  rw [h2]
theorem pack2 {A B : HProp} {L : List HProp} {n : Nat} {ops : Array Oper} {l : List Oper} {Γ : Env} {Q : Post} (h : ∀ U, U = St [A, B] → Ops Tryd.prog n ops l Γ (L ++ [U]) Q) : Ops Tryd.prog n ops l Γ (L ++ [A, B]) Q :=
  ops_sub' (fun w F s => by
    rw [St_append, star_assoc] at s
    rw [St_append, star_assoc, St_cons, St_nil, star_emp]; exact s) (h _ rfl)
def DecP (U : HProp) (b : List UInt8) (vs : List Value) (e : Int) : Prop := vs.length = 12 ∧ vs.all Value.oneCell' = true ∧ ((e = 0 ∧ ∃ y : Li, vs = y.cs ∧ y.Ok U ∧ decL b = some (y.ck, y.ls, y.f)) ∨ (e = 12 ∧ decL b = none))
theorem decP_no {U : HProp} {b : List UInt8} (h : decL b = none) : DecP U b [.slice none 0 0, .slice none 0 0, .slice none 0 0, .slice none 0 0, .slice none 0 0, .slice none 0 0, .slice none 0 0, .slice none 0 0, .slice none 0 0, .slice none 0 0, .slice none 0 0, .bool false] 12 := ⟨rfl, rfl, .inr ⟨rfl, h⟩⟩
theorem decP_yes {U : HProp} {b ck : List UInt8} {pc : Option Addr} {cc : Nat} {q2 q : R} {ns : List Lt} {f : Bool} (hr : Rg U pc cc ck q2 10 q ns) (hc : ck.length ≤ cc) (hk : ck.length ≤ 16) (h : decL b = some (ck, (rds 10 q2).2, f)) : DecP U b (lcs (.slice pc ck.length cc) ns f) 0 := by
  have e : ns.take 10 = ns := List.take_of_length_le (by rw [hr.len]; exact Nat.le_refl _)
  have h1 := hr.ls
  have h2 := hr.ok
  rw [e] at h1 h2
  refine ⟨lcs_len hr.len, lcs_one rfl, .inl ⟨rfl, ⟨pc, cc, ck, ns, f⟩, rfl, ⟨hr.len, hr.ckv, hc, by show ck.length ≤ _; omega, h2⟩, ?_⟩⟩
  rw [h, ← h1]; rfl


theorem dec_spec (V : HProp) (hM : Ml V) (p : Option Addr) (c : Nat) (b : List UInt8) (hV : Vw V (.slice p b.length c) b.length (cel b)) (hb : b.length ≤ 140737488355328) : Tri Tryd.prog 28 [.slice p b.length c] [V] (fun v H' => ∃ K, (∃ U vs e, v = .tuple #[.agg vs.toArray, .int .i64 e] ∧ DecP U b vs e ∧ K = [U]) ∧ H' = K ++ [V]) := by
  have hg0 := R.good_new b hb
  obtain ⟨q1, n1, ht1⟩ : ∃ q1 n1, (R.new b).get 1 = (q1, n1) := ⟨_, _, rfl⟩
  obtain ⟨q2, ck, ht2⟩ : ∃ q2 ck, q1.take 16 = (q2, ck) := ⟨_, _, rfl⟩
  have hg1 : q1.Good := by have h := R.good_get hg0 1; rw [ht1] at h; exact h
  have hg2 : q2.Good := by have h := R.good_take hg1 16; rw [ht2] at h; exact h
  have hck : ck.length ≤ 16 := take_lenN (n := 16) ht2
  have hd := dec_def ht1 ht2
  refine tri_of_wpS Tryd.func28 rfl Tryd.ntmps28 (by simp) ?_
  refine wp_seq' ?_
  refine wp_region' ?_
  refine ops_eff' rfl (eff_alloc z46) rfl ?_
  rintro _ _ ⟨b2, rfl, rfl⟩
  refine ops_ro' rfl (ro_assign rfl) rfl ?_
  refine ops_nil ?_
  refine Then_normal ?_
  refine wp_seq' ?_
  refine wp_region' ?_
  refine ops_ro' rfl (ro_move rfl) rfl ?_
  refine ops_eff' rfl (eff_call Tryd.call49 rfl rfl (by repeat (first | exact Split.nil _ | apply Split.cons 0 rfl | apply Split.cons 1 rfl | apply Split.cons 2 rfl | apply Split.cons 3 rfl | apply Split.cons 4 rfl | apply Split.cons 5 rfl | apply Split.cons 6 rfl | apply Split.cons 7 rfl | apply Split.cons 8 rfl | apply Split.cons 9 rfl | apply Split.cons 10 rfl | apply Split.cons 11 rfl)) (newReader_spec V p c b hV (by omega))) rfl ?_
  rintro _ H' ⟨_, ⟨pr, p8, c8, rfl, rfl⟩, hH⟩
  simp only [List.cons_append, List.nil_append, List.eraseIdx_cons_zero, List.eraseIdx_cons_succ, List.set_cons_zero, List.set_cons_succ] at hH
  subst hH
  refine ops_ro' rfl (ro_assign rfl) rfl ?_
  refine ops_nil ?_
  refine Then_normal ?_
  refine wp_seq' ?_
  refine wp_seq' ?_
  refine wp_region' ?_
  refine ops_ro' rfl (ro_move rfl) rfl ?_
  refine ops_eff' rfl (eff_call Tryd.call50 rfl rfl (by repeat (first | exact Split.nil _ | apply Split.cons 0 rfl | apply Split.cons 1 rfl | apply Split.cons 2 rfl | apply Split.cons 3 rfl | apply Split.cons 4 rfl | apply Split.cons 5 rfl | apply Split.cons 6 rfl | apply Split.cons 7 rfl | apply Split.cons 8 rfl | apply Split.cons 9 rfl | apply Split.cons 10 rfl | apply Split.cons 11 rfl)) (rByte_spec pr p8 c8 (R.new b) hg0)) rfl ?_
  rintro _ H' ⟨_, ⟨rfl, rfl⟩, hH⟩
  simp only [List.cons_append, List.nil_append, List.eraseIdx_cons_zero, List.eraseIdx_cons_succ, List.set_cons_zero, List.set_cons_succ] at hH
  subst hH
  rw [ht1]
  dsimp only
  refine ops_ro' rfl (ro_neq rfl rfl rfl) rfl ?_
  refine ops_nil ?_
  refine Then_normal ?_
  refine wp_cond' rfl (fun hc11 => ?_) (fun hc11 => ?_)
  · replace hc11 := of_decide_eq_true hc11
    refine wp_seq' ?_
    refine wp_region' ?_
    refine ops_ro' rfl (ro_build rfl (bld_struct (cs := [_, _, _, _, _, _, _, _, _, _, _, _]) st46 rfl)) rfl ?_
    refine ops_eff0 rfl (eff_storeA 3 ag46 rfl rfl rfl rfl rfl (Nat.le_of_ble_eq_true rfl) (warm_zero _)) rfl ?_
    rintro _ _ rfl
    refine ops_ro' rfl (ro_assign rfl) rfl ?_
    refine ops_nil ?_
    refine Then_normal ?_
    refine wp_ret' ?_
    refine Then_ret ?_
    refine' doneS_ret (resv2 rfl (rv_cellA ag46 rfl (by first | exact RdN.of_pick 0 rfl rdn_all | exact RdN.of_pick 1 rfl rdn_all | exact RdN.of_pick 2 rfl rdn_all | exact RdN.of_pick 3 rfl rdn_all | exact RdN.of_pick 4 rfl rdn_all | exact RdN.of_pick 5 rfl rdn_all | exact RdN.of_pick 6 rfl rdn_all | exact RdN.of_pick 7 rfl rdn_all) rfl) (rv_tmp rfl)) ?_ ?_
    rotate_left 1
    exact ⟨_, ⟨own b2 (.cells ([.slice none 0 0, .slice none 0 0, .slice none 0 0, .slice none 0 0, .slice none 0 0, .slice none 0 0, .slice none 0 0, .slice none 0 0, .slice none 0 0, .slice none 0 0, .slice none 0 0, .bool false] : List Value).toArray 46 (0, 0)), _, 12, rfl, decP_no (by rw [hd, if_neg (fun h => by have := h.1; omega)]), rfl⟩, rfl⟩
    exact (SubH.cons 3 rfl (SubH.cons 2 rfl (SubH.nil _)))
  · replace hc11 := of_decide_eq_false hc11
    refine wp_skip' ?_
    refine Then_normal ?_
    refine wp_cutK 1005 (fun Δ LL => ∃ (b5 : Nat) (p14 : Option Addr) (c14 : Nat), Δ = [(5, .pointer (some ⟨b5, 0, none⟩))] ∧ LL = [own b5 (.cells (lcs (.slice p14 ck.length c14) (List.replicate 10 Slv.nil) false).toArray 46 (0, 0)), own b2 (.cells ([.slice none 0 0, .slice none 0 0, .slice none 0 0, .slice none 0 0, .slice none 0 0, .slice none 0 0, .slice none 0 0, .slice none 0 0, .slice none 0 0, .slice none 0 0, .slice none 0 0, .bool false] : List Value).toArray 46 (0, 0))] ++ rd pr p8 c8 q2 ++ [V, row 5 1 (.slice p14 ck.length c14) ck.length (cel ck)]) (Has.cons (k := 2) rfl (Has.cons (k := 4) rfl (Has.nil _))) ?_ ?_
    · refine wp_region' ?_
      refine ops_ro' rfl (ro_move rfl) rfl ?_
      refine ops_eff' rfl (eff_call Tryd.call51 rfl rfl (by repeat (first | exact Split.nil _ | apply Split.cons 0 rfl | apply Split.cons 1 rfl | apply Split.cons 2 rfl | apply Split.cons 3 rfl | apply Split.cons 4 rfl | apply Split.cons 5 rfl | apply Split.cons 6 rfl | apply Split.cons 7 rfl | apply Split.cons 8 rfl | apply Split.cons 9 rfl | apply Split.cons 10 rfl | apply Split.cons 11 rfl)) (rRaw_spec pr p8 c8 q1 hg1 16)) rfl ?_
      rintro _ H' ⟨_, ⟨_, ⟨p14, c14, rfl, hs, rfl⟩, rfl⟩, hH⟩
      simp only [List.cons_append, List.nil_append, List.eraseIdx_cons_zero, List.eraseIdx_cons_succ, List.set_cons_zero, List.set_cons_succ] at hH
      subst hH
      rw [ht2]
      dsimp only
      refine ops_ro' rfl (ro_build rfl (bld_struct (cs := lcs (.slice p14 ck.length c14) (List.replicate 10 Slv.nil) false) st46 rfl)) rfl ?_
      refine ops_eff' rfl (eff_alloc z46) rfl ?_
      rintro _ _ ⟨b5, rfl, rfl⟩
      refine ops_eff0 rfl (eff_storeA 0 ag46 rfl rfl rfl rfl rfl (Nat.le_of_ble_eq_true rfl) (warm_zero _)) rfl ?_
      rintro _ _ rfl
      refine ops_nil ?_
      refine Then_normal ?_
      refine over_cut (kept ⟨b5, p14, c14, rfl, rfl⟩ ?_ ?_ ?_)
      · exact (by repeat (first | exact Has.nil _ | refine Has.cons rfl ?_))
      · exact (by repeat (first | exact Has.nil _ | refine Has.cons rfl ?_))
      · exact (SubH.cons 0 rfl (SubH.cons 4 rfl (SubH.cons 1 rfl (SubH.cons 1 rfl (SubH.cons 1 rfl (SubH.cons 0 rfl (SubH.nil _)))))))
    · rintro Δ LL ⟨b5, p14, c14, rfl, rfl⟩
      simp only [List.cons_append, List.nil_append]
      refine wp_seq' ?_
      refine wp_seq' ?_
      refine wp_know (fun w F s => row_caps 5 rfl s) ?_
      intro hc14
      have hr0 : Rg (row 5 1 (.slice p14 ck.length c14) ck.length (cel ck)) p14 c14 ck q2 0 q2 (List.replicate 10 Slv.nil) := Rg.zero hg2 Vw.row
      generalize row 5 1 (.slice p14 ck.length c14) ck.length (cel ck) = U0 at *
      refine wp_region' ?_
      refine ops_ro' rfl (ro_move rfl) rfl ?_
      refine ops_nil ?_
      refine Then_normal ?_
      refine wp_block' ?_
      refine wp_loopK 6 (fun m Δ LL => ∃ (i : Nat) (q : R) (ns : List Lt) (U : HProp), (i + m = 10 ∧ Rg U p14 c14 ck q2 i q ns) ∧ Δ = [(16, .int .i64 (i : Nat))] ∧ LL = [own b5 (.cells (lcs (.slice p14 ck.length c14) ns false).toArray 46 (0, 0)), own b2 (.cells ([.slice none 0 0, .slice none 0 0, .slice none 0 0, .slice none 0 0, .slice none 0 0, .slice none 0 0, .slice none 0 0, .slice none 0 0, .slice none 0 0, .slice none 0 0, .slice none 0 0, .bool false] : List Value).toArray 46 (0, 0))] ++ rd pr p8 c8 q ++ [V, U]) (m := 10) (Has.cons (k := 2) rfl (Has.cons (k := 4) rfl (Has.cons (k := 5) rfl (Has.nil _)))) (kept ⟨0, q2, List.replicate 10 Slv.nil, U0, ⟨rfl, hr0⟩, rfl, rfl⟩ (by repeat (first | exact Has.nil _ | refine Has.cons rfl ?_)) (by repeat (first | exact Has.nil _ | refine Has.cons rfl ?_)) (by repeat (first | exact SubH.nil _ | refine SubH.cons 0 rfl ?_ | refine SubH.cons 1 rfl ?_ | refine SubH.cons 2 rfl ?_ | refine SubH.cons 3 rfl ?_ | refine SubH.cons 4 rfl ?_ | refine SubH.cons 5 rfl ?_ | refine SubH.cons 6 rfl ?_ | refine SubH.cons 7 rfl ?_ | refine SubH.cons 8 rfl ?_ | refine SubH.cons 9 rfl ?_ | refine SubH.cons 10 rfl ?_ | refine SubH.cons 11 rfl ?_ | refine SubH.cons 12 rfl ?_ | refine SubH.cons 13 rfl ?_ | refine SubH.rown ?_))) ?_
      rintro m Δ LL ⟨i, q, ns, U, ⟨hm, hr⟩, rfl, rfl⟩
      simp only [List.cons_append, List.nil_append]
      refine wp_seq' ?_
      refine wp_region' ?_
      refine ops_ro' rfl (ro_lss rfl rfl rfl) rfl ?_
      refine ops_nil ?_
      refine Then_normal ?_
      refine wp_seq' ?_
      refine wp_cond' rfl (fun hc17 => ?_) (fun hc17 => ?_)
      · replace hc17 := of_decide_eq_true hc17
        have hi : i < ns.length := by rw [hr.len]; omega
        refine wp_skip' ?_
        refine Then_normal ?_
        refine wp_seq' ?_
        refine wp_block' ?_
        refine wp_seq' ?_
        refine wp_region' ?_
        refine ops_ro' rfl (ro_move rfl) rfl ?_
        refine ops_ro' rfl (ro_assign rfl) rfl ?_
        refine ops_nil ?_
        refine Then_normal ?_
        refine wp_region' ?_
        refine ops_ro' rfl (ro_move rfl) rfl ?_
        refine ops_ro' rfl (ro_move rfl) rfl ?_
        refine ops_eff' rfl (eff_call Tryd.call52 rfl rfl (by repeat (first | exact Split.nil _ | apply Split.cons 0 rfl | apply Split.cons 1 rfl | apply Split.cons 2 rfl | apply Split.cons 3 rfl | apply Split.cons 4 rfl | apply Split.cons 5 rfl | apply Split.cons 6 rfl | apply Split.cons 7 rfl | apply Split.cons 8 rfl | apply Split.cons 9 rfl | apply Split.cons 10 rfl | apply Split.cons 11 rfl)) (rNames_spec hM pr p8 c8 q hr.good)) rfl ?_
        rintro _ H' ⟨_, ⟨p21, c21, rfl, rfl⟩, hH⟩
        simp only [List.cons_append, List.nil_append, List.eraseIdx_cons_zero, List.eraseIdx_cons_succ, List.set_cons_zero, List.set_cons_succ] at hH
        subst hH
        refine ops_ro' rfl (ro_fieldAddr fa46_1 rfl) rfl ?_
        refine ops_ro' rfl (ro_indexArr Tryd.underlying44 (fun w => Tryd.sizeOf24 w) rfl rfl rfl (by omega)) rfl ?_
        refine ops_eff0 rfl (eff_store 4 sc24 rfl rfl rfl rfl (by rw [lcs_len hr.len]; omega) (warm_zero _)) rfl ?_
        rintro _ _ rfl
        simp only [List.set_cons_zero, List.set_cons_succ]
        refine ops_know (fun w F s => row_caps 0 rfl s) ?_
        intro hcn
        rw [show (lcs (.slice p14 ck.length c14) ns false).set (0 + 1 + i * 1) (.slice p21 q.lst.2.length c21) = _ from lcs_set (⟨p21, c21, q.lst.2⟩ : Lt) hi]
        refine ops_sub' (L := ([own b5 (.cells (lcs (.slice p14 ck.length c14) (ns.set i ⟨p21, c21, q.lst.2⟩) false).toArray 46 (0, 0)), own b2 (.cells ([.slice none 0 0, .slice none 0 0, .slice none 0 0, .slice none 0 0, .slice none 0 0, .slice none 0 0, .slice none 0 0, .slice none 0 0, .slice none 0 0, .slice none 0 0, .slice none 0 0, .bool false] : List Value).toArray 46 (0, 0))] ++ rd pr p8 c8 q.lst.1 ++ [V]) ++ [row 9 1 (.slice p21 q.lst.2.length c21) q.lst.2.length (txs q.lst.2), U]) (by repeat (first | exact SubH.nil _ | refine SubH.cons 0 rfl ?_ | refine SubH.cons 1 rfl ?_ | refine SubH.cons 2 rfl ?_ | refine SubH.cons 3 rfl ?_ | refine SubH.cons 4 rfl ?_ | refine SubH.cons 5 rfl ?_ | refine SubH.cons 6 rfl ?_ | refine SubH.cons 7 rfl ?_ | refine SubH.cons 8 rfl ?_ | refine SubH.cons 9 rfl ?_ | refine SubH.cons 10 rfl ?_ | refine SubH.cons 11 rfl ?_ | refine SubH.cons 12 rfl ?_ | refine SubH.cons 13 rfl ?_ | refine SubH.rown ?_)) ?_
        refine pack2 fun U2 hU2 => ?_
        simp only [List.cons_append, List.nil_append]
        have hr2 := hr.next (U' := U2) (by omega) (by subst hU2; exact sub_pk (SubH.cons 1 rfl (SubH.nil _))) ⟨p21, c21, q.lst.2⟩ (by subst hU2; exact lv_row hcn (Nat.le_trans (lst_len q) (by decide))) rfl
        clear hU2
        refine ops_nil ?_
        refine InBlock_normal ?_
        refine Then_normal ?_
        refine wp_region' ?_
        refine ops_ro' rfl (ro_add rfl rfl (wrap_inc (by omega))) rfl ?_
        refine ops_ro' rfl (ro_move rfl) rfl ?_
        refine ops_nil ?_
        refine Then_normal ?_
        refine back (m - 1) (by omega) (kept ⟨i + 1, q.lst.1, (ns.set i ⟨p21, c21, q.lst.2⟩), U2, ⟨by omega, hr2⟩, rfl, rfl⟩ ?_ ?_ ?_)
        · exact (by repeat (first | exact Has.nil _ | refine Has.cons rfl ?_))
        · exact (by repeat (first | exact Has.nil _ | refine Has.cons rfl ?_))
        · exact SubH.refl _
      · replace hc17 := of_decide_eq_false hc17
        obtain rfl : i = 10 := by omega
        have hq := hr.qe
        have hg3 := R.good_get hr.good 1
        have hg4 := R.good_get hg3 4
        refine wp_exit' ?_
        refine Then_exit ?_
        refine Then_exit ?_
        refine InBlock_here ?_
        refine Then_normal ?_
        refine wp_seq' ?_
        refine wp_region' ?_
        refine ops_ro' rfl (ro_move rfl) rfl ?_
        refine ops_eff' rfl (eff_call Tryd.call53 rfl rfl (by repeat (first | exact Split.nil _ | apply Split.cons 0 rfl | apply Split.cons 1 rfl | apply Split.cons 2 rfl | apply Split.cons 3 rfl | apply Split.cons 4 rfl | apply Split.cons 5 rfl | apply Split.cons 6 rfl | apply Split.cons 7 rfl | apply Split.cons 8 rfl | apply Split.cons 9 rfl | apply Split.cons 10 rfl | apply Split.cons 11 rfl)) (rBool_spec pr p8 c8 q hr.good)) rfl ?_
        rintro _ H' ⟨_, ⟨rfl, rfl⟩, hH⟩
        simp only [List.cons_append, List.nil_append, List.eraseIdx_cons_zero, List.eraseIdx_cons_succ, List.set_cons_zero, List.set_cons_succ] at hH
        subst hH
        refine ops_ro' rfl (ro_fieldAddr fa46_2 rfl) rfl ?_
        refine ops_eff0 rfl (eff_store 2 sc4 rfl rfl rfl rfl (by rw [lcs_len hr.len]; omega) (warm_zero _)) rfl ?_
        rintro _ _ rfl
        simp only [List.set_cons_zero, List.set_cons_succ]
        rw [lcs_setF _ hr.len]
        refine ops_nil ?_
        refine Then_normal ?_
        refine wp_seq' ?_
        refine wp_region' ?_
        refine ops_ro' rfl (ro_move rfl) rfl ?_
        refine ops_eff' rfl (eff_call Tryd.call54 rfl rfl (by repeat (first | exact Split.nil _ | apply Split.cons 0 rfl | apply Split.cons 1 rfl | apply Split.cons 2 rfl | apply Split.cons 3 rfl | apply Split.cons 4 rfl | apply Split.cons 5 rfl | apply Split.cons 6 rfl | apply Split.cons 7 rfl | apply Split.cons 8 rfl | apply Split.cons 9 rfl | apply Split.cons 10 rfl | apply Split.cons 11 rfl)) (rU32_spec pr p8 c8 (q.get 1).1 hg3.len hg3.pos)) rfl ?_
        rintro _ H' ⟨_, ⟨rfl, rfl⟩, hH⟩
        simp only [List.cons_append, List.nil_append, List.eraseIdx_cons_zero, List.eraseIdx_cons_succ, List.set_cons_zero, List.set_cons_succ] at hH
        subst hH
        refine ops_nil ?_
        refine Then_normal ?_
        refine wp_seq' ?_
        refine wp_seq' ?_
        refine wp_region' ?_
        refine ops_ro' rfl (ro_move rfl) rfl ?_
        refine ops_eff' rfl (eff_call Tryd.call55 rfl rfl (by repeat (first | exact Split.nil _ | apply Split.cons 0 rfl | apply Split.cons 1 rfl | apply Split.cons 2 rfl | apply Split.cons 3 rfl | apply Split.cons 4 rfl | apply Split.cons 5 rfl | apply Split.cons 6 rfl | apply Split.cons 7 rfl | apply Split.cons 8 rfl | apply Split.cons 9 rfl | apply Split.cons 10 rfl | apply Split.cons 11 rfl)) (all_spec pr p8 c8 ((q.get 1).1.get 4).1 hg4.len hg4.pos)) rfl ?_
        rintro _ H' ⟨_, ⟨rfl, rfl⟩, hH⟩
        simp only [List.cons_append, List.nil_append, List.eraseIdx_cons_zero, List.eraseIdx_cons_succ, List.set_cons_zero, List.set_cons_succ] at hH
        subst hH
        refine ops_ro' rfl (ro_not rfl rfl) rfl ?_
        refine ops_nil ?_
        refine Then_normal ?_
        refine wp_cond' rfl (fun hc32 => ?_) (fun hc32 => ?_)
        · simp only [Bool.and_eq_true, decide_eq_true_eq, Bool.not_eq_true', decide_eq_false_iff_not, bne_iff_ne, ne_eq] at hc32
          refine wp_seq' ?_
          refine wp_region' ?_
          refine ops_ro' rfl (ro_build rfl (bld_struct (cs := [_, _, _, _, _, _, _, _, _, _, _, _]) st46 rfl)) rfl ?_
          refine ops_eff0 rfl (eff_storeA 3 ag46 rfl rfl rfl rfl rfl (Nat.le_of_ble_eq_true rfl) (warm_zero _)) rfl ?_
          rintro _ _ rfl
          refine ops_ro' rfl (ro_assign rfl) rfl ?_
          refine ops_nil ?_
          refine Then_normal ?_
          refine wp_ret' ?_
          refine Then_ret ?_
          refine' doneS_ret (resv2 rfl (rv_cellA ag46 rfl (by first | exact RdN.of_pick 0 rfl rdn_all | exact RdN.of_pick 1 rfl rdn_all | exact RdN.of_pick 2 rfl rdn_all | exact RdN.of_pick 3 rfl rdn_all | exact RdN.of_pick 4 rfl rdn_all | exact RdN.of_pick 5 rfl rdn_all | exact RdN.of_pick 6 rfl rdn_all | exact RdN.of_pick 7 rfl rdn_all) rfl) (rv_tmp rfl)) ?_ ?_
          rotate_left 1
          exact ⟨_, ⟨U, _, 12, rfl, decP_no (by rw [hd, ← hq, if_neg (fun h => by have := h.2; simp_all)]), rfl⟩, rfl⟩
          exact (SubH.cons 5 rfl (SubH.cons 4 rfl (SubH.nil _)))
        · simp only [Bool.and_eq_false_iff, decide_eq_false_iff_not, Bool.not_eq_false', decide_eq_true_eq] at hc32
          refine wp_skip' ?_
          refine Then_normal ?_
          refine wp_seq' ?_
          refine wp_region' ?_
          refine ops_ro' rfl (ro_loadA ag46 rfl (RdN.of_pick 2 rfl rdn_all) (lcs_len hr.len)) rfl ?_
          refine ops_eff0 rfl (eff_storeA 3 ag46 rfl rfl (lcs_len hr.len) (lcs_one rfl) rfl (by first | exact Nat.le_refl _ | decide | (rw [lcs_len hr.len]; decide)) (warm_zero _)) rfl ?_
          rintro _ _ rfl
          simp only [List.set_cons_zero, List.set_cons_succ]
          rw [over_all (by rw [lcs_len hr.len]; rfl)]
          refine ops_ro' rfl (ro_assign rfl) rfl ?_
          refine ops_nil ?_
          refine Then_normal ?_
          refine wp_ret' ?_
          refine' doneS_ret (resv2 rfl (rv_cellA ag46 rfl (by first | exact RdN.of_pick 0 rfl rdn_all | exact RdN.of_pick 1 rfl rdn_all | exact RdN.of_pick 2 rfl rdn_all | exact RdN.of_pick 3 rfl rdn_all | exact RdN.of_pick 4 rfl rdn_all | exact RdN.of_pick 5 rfl rdn_all | exact RdN.of_pick 6 rfl rdn_all | exact RdN.of_pick 7 rfl rdn_all) (lcs_len hr.len)) (rv_tmp rfl)) ?_ ?_
          rotate_left 1
          exact ⟨_, ⟨U, _, 0, rfl, decP_yes hr hc14 hck (by rw [hd, ← hq, if_pos ⟨by omega, by simp_all⟩]), rfl⟩, rfl⟩
          exact (SubH.cons 5 rfl (SubH.cons 4 rfl (SubH.nil _)))

end Go.Proofs.YtigaolglnnjnmaaDoor
