/-
  The reader of package wire: states that are all right; texts.
-/
import Derived.Test.YtigaolglnnjnmaaDoorSxStr
import Derived.Test.YtigaolglnnjnmaaDoorRead
namespace Go.Proofs.YtigaolglnnjnmaaDoor
open Go.Sx
set_option linter.unusedVariables false
set_option linter.unusedSimpArgs false
set_option maxRecDepth 100000
set_option maxHeartbeats 4000000

structure R.Good (r : R) : Prop where
  len : r.b.length ≤ 140737488355328
  pos : r.pos ≤ r.b.length
theorem R.good_take {r : R} (h : r.Good) (n : Int) : (r.take n).1.Good := ⟨by rw [take_b]; exact h.len, take_pos r n h.pos⟩
theorem R.good_get {r : R} (h : r.Good) (n : Nat) : (r.get n).1.Good := R.good_take h n
theorem R.good_refuse {r : R} (h : r.Good) (w k : Int) : (r.refuse w k).Good := by unfold R.refuse; split; exact ⟨h.len, h.pos⟩; exact h
theorem R.good_fail {r : R} (h : r.Good) (w : Int) : (r.fail w).Good := by unfold R.fail; split; exact h; exact R.good_refuse h _ _
theorem R.good_new (l : List UInt8) (h : l.length ≤ 140737488355328) : (R.new l).Good := ⟨h, Nat.zero_le _⟩
theorem R.good_ite {p : Prop} [Decidable p] {a b : R} (h1 : a.Good) (h2 : b.Good) : (if p then a else b).Good := by split; exact h1; exact h2
/-- a text that is not longer than most -/
def R.text (r : R) (most : Int) : R × List UInt8 :=
  (if (if 0 > most then 0 else most) < ((r.get 4).2 : Int) then (r.get 4).1.refuse 3 r.pos else (r.get 4).1).take ((r.get 4).2 : Nat)
theorem R.good_text {r : R} (h : r.Good) (n : Int) : (r.text n).1.Good := by
  unfold R.text; exact R.good_take (R.good_ite (R.good_refuse (R.good_get h 4) _ _) (R.good_get h 4)) _
theorem take_why0 (r : R) (n : Int) (h : r.why ≠ 0) : (r.take n).1 = r := by unfold R.take; rw [if_pos h]


theorem rText_spec (pr : Nat) (p : Option Addr) (c : Nat) (r : R) (hg : r.Good) (most : Int) (hm : -9223372036854775808 ≤ most ∧ most ≤ 9223372036854775807) :
    Tri Tryd.prog 73 [.pointer (some ⟨pr, 0, none⟩), .int .i64 most] (rd pr p c r) (fun v H' => v = .string (str (r.text most).2) ∧ H' = rd pr p c (r.text most).1) := by
  refine tri_of_wpS Tryd.func73 rfl Tryd.ntmps73 (by simp) ?_
  refine wp_seq' ?_
  refine wp_region' ?_
  refine ops_ro' rfl (ro_assign rfl) rfl ?_
  refine ops_nil ?_
  refine Then_normal ?_
  refine wp_seq' ?_
  refine wp_region' ?_
  refine ops_ro' rfl (ro_move rfl) rfl ?_
  refine ops_ro' rfl (ro_nilCheck rfl) rfl ?_
  refine ops_ro' rfl (ro_fieldAddr fa103_1 rfl) rfl ?_
  refine ops_ro' rfl (ro_load sc3 rfl (Rd.pick 0 rfl (Rd.own rfl))) rfl ?_
  refine ops_ro' rfl (ro_assign rfl) rfl ?_
  refine ops_nil ?_
  refine Then_normal ?_
  refine wp_seq' ?_
  refine wp_region' ?_
  refine ops_ro' rfl (ro_move rfl) rfl ?_
  refine ops_eff' rfl (eff_call Tryd.call71 rfl rfl (by repeat (first | exact Split.nil _ | apply Split.cons 0 rfl | apply Split.cons 1 rfl | apply Split.cons 2 rfl | apply Split.cons 3 rfl | apply Split.cons 4 rfl | apply Split.cons 5 rfl | apply Split.cons 6 rfl | apply Split.cons 7 rfl | apply Split.cons 8 rfl | apply Split.cons 9 rfl | apply Split.cons 10 rfl | apply Split.cons 11 rfl)) (get_spec pr p c r 4 (by omega) hg.len hg.pos)) rfl ?_
  rintro _ H' ⟨_, ⟨rfl, rfl⟩, hH⟩
  simp only [List.cons_append, List.nil_append, List.eraseIdx_cons_zero, List.eraseIdx_cons_succ, List.set_cons_zero, List.set_cons_succ] at hH
  subst hH
  have hlt := get_lt r 4
  simp only [Nat.reducePow] at hlt
  have hg1 := R.good_get hg 4
  refine ops_ro' rfl (ro_assign rfl) rfl ?_
  refine ops_nil ?_
  refine Then_normal ?_
  refine wp_cutK 1005 (fun Δ LL => ∃ (q : R), (q.Good ∧ q = (if (if 0 > most then 0 else most) < ((r.get 4).2 : Int) then (r.get 4).1.refuse 3 r.pos else (r.get 4).1)) ∧ Δ = [] ∧ LL = rd pr p c q) (Has.cons (k := 0) rfl (Has.cons (k := 6) rfl (Has.nil _))) ?_ ?_
  · refine wp_seq' ?_
    refine wp_region' ?_
    refine ops_ro' rfl (ro_move rfl) rfl ?_
    refine ops_ro' rfl (ro_move rfl) rfl ?_
    refine ops_ro' rfl (ro_max rfl rfl rfl) rfl ?_
    refine ops_ro' rfl (ro_conv Tryd.underlying3 Tryd.underlying98 rfl (wrap_u64_in (by split <;> omega) (by split <;> omega))) rfl ?_
    refine ops_ro' rfl (ro_gtr rfl rfl rfl) rfl ?_
    refine ops_nil ?_
    refine Then_normal ?_
    refine wp_cond' rfl (fun hc17 => ?_) (fun hc17 => ?_)
    · replace hc17 := of_decide_eq_true hc17
      refine wp_region' ?_
      refine ops_ro' rfl (ro_move rfl) rfl ?_
      refine ops_ro' rfl (ro_move rfl) rfl ?_
      refine ops_eff' rfl (eff_call Tryd.call75 rfl rfl (by repeat (first | exact Split.nil _ | apply Split.cons 0 rfl | apply Split.cons 1 rfl | apply Split.cons 2 rfl | apply Split.cons 3 rfl | apply Split.cons 4 rfl | apply Split.cons 5 rfl | apply Split.cons 6 rfl | apply Split.cons 7 rfl | apply Split.cons 8 rfl | apply Split.cons 9 rfl | apply Split.cons 10 rfl | apply Split.cons 11 rfl)) (refuse_spec pr p c (r.get 4).1 3 r.pos)) rfl ?_
      rintro _ H' ⟨_, ⟨rfl, rfl⟩, hH⟩
      simp only [List.cons_append, List.nil_append, List.eraseIdx_cons_zero, List.eraseIdx_cons_succ, List.set_cons_zero, List.set_cons_succ] at hH
      subst hH
      refine ops_nil ?_
      refine Then_normal ?_
      refine over_cut (kept ⟨_, ⟨R.good_refuse hg1 _ _, (if_pos hc17).symm⟩, rfl, rfl⟩ ?_ ?_ ?_)
      · exact (by repeat (first | exact Has.nil _ | refine Has.cons rfl ?_))
      · exact (by repeat (first | exact Has.nil _ | refine Has.cons rfl ?_))
      · exact SubH.refl _
    · replace hc17 := of_decide_eq_false hc17
      refine wp_skip' ?_
      refine Then_normal ?_
      refine over_cut (kept ⟨_, ⟨hg1, (if_neg hc17).symm⟩, rfl, rfl⟩ ?_ ?_ ?_)
      · exact (by repeat (first | exact Has.nil _ | refine Has.cons rfl ?_))
      · exact (by repeat (first | exact Has.nil _ | refine Has.cons rfl ?_))
      · exact SubH.refl _
  · rintro Δ LL ⟨q, ⟨hq, hqe⟩, rfl, rfl⟩
    simp only [List.cons_append, List.nil_append]
    refine wp_seq' ?_
    refine wp_region' ?_
    refine ops_ro' rfl (ro_move rfl) rfl ?_
    refine ops_ro' rfl (ro_move rfl) rfl ?_
    refine ops_ro' rfl (ro_conv Tryd.underlying98 Tryd.underlying3 rfl (wrap_natN (by omega))) rfl ?_
    refine ops_eff' rfl (eff_call Tryd.call72 rfl rfl (by repeat (first | exact Split.nil _ | apply Split.cons 0 rfl | apply Split.cons 1 rfl | apply Split.cons 2 rfl | apply Split.cons 3 rfl | apply Split.cons 4 rfl | apply Split.cons 5 rfl | apply Split.cons 6 rfl | apply Split.cons 7 rfl | apply Split.cons 8 rfl | apply Split.cons 9 rfl | apply Split.cons 10 rfl | apply Split.cons 11 rfl)) (take_spec pr p c q ((r.get 4).2 : Nat) hq.len hq.pos)) rfl ?_
    rintro _ H' ⟨_, ⟨A, ⟨p', c', rfl, hs, rfl⟩, rfl⟩, hH⟩
    simp only [List.cons_append, List.nil_append, List.eraseIdx_cons_zero, List.eraseIdx_cons_succ, List.set_cons_zero, List.set_cons_succ] at hH
    subst hH
    refine ops_ro' rfl (ro_toStr Tryd.underlying22 Tryd.underlying5 Tryd.underlying9 rfl (Vw.pick 0 rfl Vw.row) rfl) rfl ?_
    refine ops_ro' rfl (ro_assign rfl) rfl ?_
    refine ops_nil ?_
    refine Then_normal ?_
    refine wp_ret' ?_
    refine' doneS_ret (res1 rfl rfl) ?_ ?_
    rotate_left 1
    exact ⟨by unfold R.text; rw [← hqe], by unfold R.text; rw [← hqe]⟩
    exact (SubH.cons 1 rfl (SubH.cons 1 rfl (SubH.nil _)))

end Go.Proofs.YtigaolglnnjnmaaDoor
