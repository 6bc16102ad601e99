/-
  Names that are read, by both.
-/
import Derived.Test.YtigaolglnnjnmaaDoorRd1
namespace Go.Proofs.YtigaolglnnjnmaaDoor
open Go.Sx
set_option linter.unusedVariables false
set_option linter.unusedSimpArgs false
set_option maxRecDepth 100000
set_option maxHeartbeats 4000000

/-- a text is cut at c: `out` is what was cut off, at fr the next part begins, i is where the look is -/
def Pst (c : UInt8) (s : List UInt8) (out : List (List UInt8)) (fr i : Nat) : Prop := fr ≤ i ∧ i ≤ s.length ∧ parts c s = out ++ pre ((s.drop fr).take (i - fr)) (parts c (s.drop i))
theorem Pst.init (c : UInt8) (s : List UInt8) : Pst c s [] 0 0 := ⟨Nat.le_refl _, Nat.zero_le _, by simp [pre_nil (parts_ne c s)]⟩
theorem Pst.go {c : UInt8} {s : List UInt8} {out : List (List UInt8)} {fr i : Nat} (h : Pst c s out fr i) (hi : i < s.length) (hc : s[i] ≠ c) : Pst c s out fr (i + 1) := by
  obtain ⟨h1, h2, h3⟩ := h
  refine ⟨by omega, by omega, ?_⟩
  rw [h3, List.drop_eq_getElem_cons hi, parts_cons hc, pre_pre]
  congr 1
  congr 1
  rw [show i + 1 - fr = (i - fr) + 1 by omega, List.take_succ_eq_append_getElem (by rw [List.length_drop]; omega)]
  congr 1
  rw [List.getElem_drop]
  congr 2; omega
theorem Pst.cut {c : UInt8} {s : List UInt8} {out : List (List UInt8)} {fr i : Nat} (h : Pst c s out fr i) (hc : i = s.length ∨ ∃ hi : i < s.length, s[i] = c) :
    (s.drop fr).take (i - fr) ∈ parts c s ∧ (i + 1 ≤ s.length → Pst c s (out ++ [(s.drop fr).take (i - fr)]) (i + 1) (i + 1)) ∧ (i + 1 = s.length + 1 → parts c s = out ++ [(s.drop fr).take (i - fr)]) := by
  obtain ⟨h1, h2, h3⟩ := h
  rcases hc with hc | ⟨hi, hc⟩
  · have e : s.drop i = [] := List.drop_eq_nil_of_le (by omega)
    rw [e] at h3
    have h4 : parts c s = out ++ [(s.drop fr).take (i - fr)] := by rw [h3]; simp [parts, pre]
    exact ⟨by rw [h4]; simp, fun hh => by omega, fun _ => h4⟩
  · rw [List.drop_eq_getElem_cons hi, hc, parts_hit] at h3
    have h4 : parts c s = out ++ ((s.drop fr).take (i - fr) :: parts c (s.drop (i + 1))) := by rw [h3]; simp [pre]
    refine ⟨by rw [h4]; simp, fun hh => ⟨Nat.le_refl _, hh, ?_⟩, fun hh => by omega⟩
    rw [h4]; simp [pre_nil (parts_ne c _)]

theorem text_le (r : R) (n : Int) : ((r.text n).2.length : Int) ≤ if 0 > n then 0 else n := by
  have hz : 0 ≤ if 0 > n then 0 else n := by split <;> omega
  unfold R.text
  generalize (if 0 > n then 0 else n) = z at *
  split
  · rename_i h
    have h2 : (((r.get 4).1.refuse 3 r.pos).take ((r.get 4).2 : Nat)).2 = [] := by
      have h3 : ((r.get 4).1.refuse 3 r.pos).why ≠ 0 := by
        unfold R.refuse; split
        · exact (by decide : (3 : Int) ≠ 0)
        · assumption
      unfold R.take; rw [if_pos h3]
    rw [h2]; exact hz
  · rename_i h
    have h2 := take_len (r.get 4).1 ((r.get 4).2 : Nat)
    omega
def R.lst (r : R) : R × List (List UInt8) := if (r.text 1000).1.why ≠ 0 ∨ (r.text 1000).2 = [] then ((r.text 1000).1, []) else if (parts 44 (r.text 1000).2).all nmOk = true then ((r.text 1000).1, parts 44 (r.text 1000).2) else ((r.text 1000).1.refuse 12 r.pos, [])
theorem R.lst_no {r q : R} {s : List UInt8} (e : r.text 1000 = (q, s)) (h : q.why ≠ 0 ∨ s = []) : r.lst = (q, []) := by unfold R.lst; rw [e]; simp only; rw [if_pos h]
theorem R.lst_good {r q : R} {s : List UInt8} (e : r.text 1000 = (q, s)) (h : q.why = 0) (h1 : s ≠ []) (hb : (parts 44 s).all nmOk = true) : r.lst = (q, parts 44 s) := by unfold R.lst; rw [e]; simp only; rw [if_neg (by simp [h, h1]), if_pos hb]
theorem R.lst_bad {r q : R} {s : List UInt8} (e : r.text 1000 = (q, s)) (h : q.why = 0) (h1 : s ≠ []) (hb : (parts 44 s).all nmOk = false) : r.lst = (q.refuse 12 r.pos, []) := by unfold R.lst; rw [e]; simp only; rw [if_neg (by simp [h, h1]), if_neg (by simp [hb])]
theorem take_bad0 {r : R} {n : Int} (h : (r.take n).1.why ≠ 0) : (r.take n).2 = [] := by
  unfold R.take at *
  split
  · rfl
  · rename_i h1
    rw [if_neg h1] at h
    split
    · rfl
    · rename_i h2
      rw [if_neg h2] at h
      split
      · rfl
      · rename_i h3
        rw [if_neg h3] at h
        exact absurd h h1
theorem text_bad {r : R} {n : Int} (h : (r.text n).1.why ≠ 0) : (r.text n).2 = [] := by unfold R.text at *; exact take_bad0 h
theorem R.good_lst {r : R} (h : r.Good) : r.lst.1.Good := by
  unfold R.lst; split
  · exact R.good_text h _
  · split
    · exact R.good_text h _
    · exact R.good_refuse (R.good_text h _) _ _
theorem parts_big {s x : List UInt8} {n : Nat} (hs : s.length ≤ n) (h : x ∈ parts 44 s) : x.length ≤ n := Nat.le_trans (parts_mem 44 s x h).1 hs
/-- a text's names; false: one is none -/
def ptsOf (s : List UInt8) : List (List UInt8) × Bool := if s = [] then ([], true) else if (parts 44 s).all nmOk = true then (parts 44 s, true) else ([], false)
theorem pts_nil : ptsOf [] = ([], true) := rfl
theorem pts_good {s : List UInt8} (h : s ≠ []) (hb : (parts 44 s).all nmOk = true) : ptsOf s = (parts 44 s, true) := by unfold ptsOf; rw [if_neg h, if_pos hb]
theorem pts_bad {s x : List UInt8} (h : s ≠ []) (hx : x ∈ parts 44 s) (hb : nmOk x = false) : ptsOf s = ([], false) := by
  unfold ptsOf; rw [if_neg h, if_neg]
  intro hh
  have := List.all_eq_true.1 hh x hx
  rw [hb] at this; cases this


theorem rNames_spec {V : HProp} (hM : Ml V) (pr : Nat) (p : Option Addr) (c : Nat) (r : R) (hg : r.Good) : Tri Tryd.prog 52 [.pointer (some ⟨pr, 0, none⟩)] (rd pr p c r ++ [V])
    (fun v H' => ∃ p' c', v = .slice p' r.lst.2.length c' ∧ H' = row 9 1 (.slice p' r.lst.2.length c') r.lst.2.length (txs r.lst.2) :: (rd pr p c r.lst.1 ++ [V])) := by
  refine tri_of_wpS Tryd.func52 rfl Tryd.ntmps52 (by simp) ?_
  refine wp_seq' ?_
  refine wp_region' ?_
  refine ops_ro' rfl (ro_assign rfl) rfl ?_
  refine ops_nil ?_
  refine Then_normal ?_
  refine wp_seq' ?_
  refine wp_region' ?_
  refine ops_ro' rfl (ro_move rfl) rfl ?_
  refine ops_ro' rfl (ro_nilCheck rfl) rfl ?_
  refine ops_ro' rfl (ro_fieldAddr fa103_1 rfl) rfl ?_
  refine ops_ro' rfl (ro_load sc3 rfl (Rd.pick 0 rfl (Rd.own rfl))) rfl ?_
  refine ops_ro' rfl (ro_assign rfl) rfl ?_
  refine ops_nil ?_
  refine Then_normal ?_
  refine wp_seq' ?_
  refine wp_region' ?_
  refine ops_ro' rfl (ro_move rfl) rfl ?_
  refine ops_eff' rfl (eff_call Tryd.call73 rfl rfl (by repeat (first | exact Split.nil _ | apply Split.cons 0 rfl | apply Split.cons 1 rfl | apply Split.cons 2 rfl | apply Split.cons 3 rfl | apply Split.cons 4 rfl | apply Split.cons 5 rfl | apply Split.cons 6 rfl | apply Split.cons 7 rfl | apply Split.cons 8 rfl | apply Split.cons 9 rfl | apply Split.cons 10 rfl | apply Split.cons 11 rfl)) (rText_spec pr p c r hg 1000 (by decide))) rfl ?_
  rintro _ H' ⟨_, ⟨rfl, rfl⟩, hH⟩
  simp only [List.cons_append, List.nil_append, List.eraseIdx_cons_zero, List.eraseIdx_cons_succ, List.set_cons_zero, List.set_cons_succ] at hH
  subst hH
  have hg1 := R.good_text hg 1000
  have hln := text_le r 1000
  have hbd := fun h => text_bad (r := r) (n := 1000) h
  generalize et : r.text 1000 = t at *
  obtain ⟨q, s⟩ := t
  simp only at *
  rw [if_neg (by decide)] at hln
  refine ops_ro' rfl (ro_assign rfl) rfl ?_
  refine ops_nil ?_
  refine Then_normal ?_
  refine wp_seq' ?_
  refine wp_seq' ?_
  refine wp_region' ?_
  refine ops_ro' rfl (ro_move rfl) rfl ?_
  refine ops_ro' rfl (ro_nilCheck rfl) rfl ?_
  refine ops_ro' rfl (ro_fieldAddr fa103_2 rfl) rfl ?_
  refine ops_ro' rfl (ro_load sc25 rfl (Rd.pick 0 rfl (Rd.own rfl))) rfl ?_
  refine ops_ro' rfl (ro_neq rfl rfl rfl) rfl ?_
  refine ops_split rfl rfl rfl (fun hg17 => ?_) (fun hg17 => ?_)
  · replace hg17 := of_decide_eq_true hg17
    refine ops_skip' rfl rfl ?_
    refine ops_skip' rfl rfl ?_
    refine ops_ro' rfl (ro_pick rfl rfl) rfl ?_
    refine ops_nil ?_
    refine Then_normal ?_
    refine wp_condT rfl ?_
    refine wp_seq' ?_
    refine wp_region' ?_
    refine ops_ro' rfl (ro_assign rfl) rfl ?_
    refine ops_nil ?_
    refine Then_normal ?_
    refine wp_ret' ?_
    refine Then_ret ?_
    refine' doneS_ret (res1 rfl rfl) ?_ ?_
    rotate_left 1
    exact ⟨none, 0, by rw [R.lst_no et (by first | exact .inl (by assumption) | exact .inr (by assumption))]; first | done | exact rfl, by rw [R.lst_no et (by first | exact .inl (by assumption) | exact .inr (by assumption))]; first | done | exact rfl⟩
    exact (SubH.rown (SubH.cons 0 rfl (SubH.cons 0 rfl (SubH.cons 0 rfl (SubH.nil _)))))
  · replace hg17 := of_decide_eq_false hg17
    refine ops_ro' rfl (ro_move rfl) rfl ?_
    refine ops_ro' rfl (ro_eqlS rfl rfl rfl) rfl ?_
    refine ops_ro' rfl (ro_pick rfl rfl) rfl ?_
    refine ops_nil ?_
    refine Then_normal ?_
    refine wp_cond' rfl (fun hc20 => ?_) (fun hc20 => ?_)
    · replace hc20 := of_decide_eq_true hc20
      refine wp_seq' ?_
      refine wp_region' ?_
      refine ops_ro' rfl (ro_assign rfl) rfl ?_
      refine ops_nil ?_
      refine Then_normal ?_
      refine wp_ret' ?_
      refine Then_ret ?_
      refine' doneS_ret (res1 rfl rfl) ?_ ?_
      rotate_left 1
      exact ⟨none, 0, by rw [R.lst_no et (by first | exact .inl (by assumption) | exact .inr (by assumption))]; first | done | exact rfl, by rw [R.lst_no et (by first | exact .inl (by assumption) | exact .inr (by assumption))]; first | done | exact rfl⟩
      exact (SubH.rown (SubH.cons 0 rfl (SubH.cons 0 rfl (SubH.cons 0 rfl (SubH.nil _)))))
    · replace hc20 := of_decide_eq_false hc20
      refine wp_skip' ?_
      refine Then_normal ?_
      refine wp_seq' ?_
      have hq : q.why = 0 := by omega
      have hs : s ≠ [] := by assumption
      refine wp_region' ?_
      refine ops_ro' rfl (ro_move rfl) rfl ?_
      refine ops_eff' rfl (eff_callM (Pre := []) Tryd.call34 rfl rfl (Split.nil _) (split_spec _ (Ml.pick 2 rfl hM) s 44 (by omega))) rfl ?_
      rintro _ H' ⟨_, ⟨b22, rfl, rfl⟩, hH⟩
      simp only [List.cons_append, List.nil_append, List.eraseIdx_cons_zero, List.eraseIdx_cons_succ, List.set_cons_zero, List.set_cons_succ] at hH
      subst hH
      have hpl := parts_length_le 44 s
      have hpb := fun x h => parts_big (s := s) (x := x) (n := 1000) (by omega) h
      refine ops_ro' rfl (ro_assign rfl) rfl ?_
      refine ops_nil ?_
      refine Then_normal ?_
      refine wp_seq' ?_
      refine wp_seq' ?_
      refine wp_region' ?_
      refine ops_ro' rfl (ro_move rfl) rfl ?_
      refine ops_eff' rfl (eff_callM (Pre := []) Tryd.call42 rfl rfl (Split.nil _) (contf_spec _ (parts 44 s) _ _ (by first | exact Vw.pick 0 rfl Vw.row | exact Vw.pick 1 rfl Vw.row | exact Vw.pick 2 rfl Vw.row | exact Vw.pick 3 rfl Vw.row | exact Vw.pick 4 rfl Vw.row | exact Vw.pick 5 rfl Vw.row | exact Vw.pick 6 rfl Vw.row | exact Vw.pick 7 rfl Vw.row | exact Vw.pick 8 rfl Vw.row | exact Vw.pick 9 rfl Vw.row | exact Vw.nil _ | exact Vw.empty _ _) (by omega) (fun x h => Nat.le_trans (hpb x h) (by decide)))) rfl ?_
      rintro _ H' ⟨_, ⟨rfl, rfl⟩, hH⟩
      simp only [List.cons_append, List.nil_append, List.eraseIdx_cons_zero, List.eraseIdx_cons_succ, List.set_cons_zero, List.set_cons_succ] at hH
      subst hH
      refine ops_nil ?_
      refine Then_normal ?_
      refine wp_cond' rfl (fun hc24 => ?_) (fun hc24 => ?_)
      · simp only [Bool.and_eq_true, decide_eq_true_eq, Bool.not_eq_true', decide_eq_false_iff_not, bne_iff_ne, ne_eq] at hc24
        refine wp_seq' ?_
        refine wp_region' ?_
        refine ops_ro' rfl (ro_move rfl) rfl ?_
        refine ops_ro' rfl (ro_move rfl) rfl ?_
        refine ops_eff' rfl (eff_call Tryd.call75 rfl rfl (by repeat (first | exact Split.nil _ | apply Split.cons 0 rfl | apply Split.cons 1 rfl | apply Split.cons 2 rfl | apply Split.cons 3 rfl | apply Split.cons 4 rfl | apply Split.cons 5 rfl | apply Split.cons 6 rfl | apply Split.cons 7 rfl | apply Split.cons 8 rfl | apply Split.cons 9 rfl | apply Split.cons 10 rfl | apply Split.cons 11 rfl)) (refuse_spec pr p c q 12 r.pos)) rfl ?_
        rintro _ H' ⟨_, ⟨rfl, rfl⟩, hH⟩
        simp only [List.cons_append, List.nil_append, List.eraseIdx_cons_zero, List.eraseIdx_cons_succ, List.set_cons_zero, List.set_cons_succ] at hH
        subst hH
        refine ops_nil ?_
        refine Then_normal ?_
        refine wp_seq' ?_
        refine wp_region' ?_
        refine ops_ro' rfl (ro_assign rfl) rfl ?_
        refine ops_nil ?_
        refine Then_normal ?_
        refine wp_ret' ?_
        refine Then_ret ?_
        refine' doneS_ret (res1 rfl rfl) ?_ ?_
        rotate_left 1
        exact ⟨none, 0, by rw [R.lst_bad et hq hs (by simpa using hc24)]; exact rfl, by rw [R.lst_bad et hq hs (by simpa using hc24)]; first | done | exact rfl⟩
        exact (SubH.rown (SubH.cons 0 rfl (SubH.cons 0 rfl (SubH.cons 1 rfl (SubH.nil _)))))
      · simp only [Bool.and_eq_false_iff, decide_eq_false_iff_not, Bool.not_eq_false', decide_eq_true_eq] at hc24
        refine wp_skip' ?_
        refine Then_normal ?_
        refine wp_seq' ?_
        refine wp_region' ?_
        refine ops_ro' rfl (ro_move rfl) rfl ?_
        refine ops_ro' rfl (ro_assign rfl) rfl ?_
        refine ops_nil ?_
        refine Then_normal ?_
        refine wp_ret' ?_
        refine' doneS_ret (res1 rfl rfl) ?_ ?_
        rotate_left 1
        exact ⟨_, _, by rw [R.lst_good et hq hs (by simpa using hc24)], by rw [R.lst_good et hq hs (by simpa using hc24)]⟩
        exact SubH.refl _

end Go.Proofs.YtigaolglnnjnmaaDoor
