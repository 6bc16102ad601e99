/-
  Asks of readers, by both.
-/
import Derived.Test.YtbiohhfibkolgaaDoorRn1
namespace Go.Proofs.YtbiohhfibkolgaaDoor
open Go.Sx
set_option linter.unusedVariables false
set_option linter.unusedSimpArgs false
set_option maxRecDepth 100000
set_option maxHeartbeats 4000000

/-- a part -/
structure Pt where
  kind : Int
  n : Nat
  s : List UInt8
  l : List (List UInt8)
  p : Option Addr
  c : Nat
def Pt.cs (x : Pt) : List Value := [.int .i64 x.kind, .int .u64 (x.n : Int), .string (str x.s), .slice x.p x.l.length x.c]
theorem Pt.len (x : Pt) : x.cs.length = 4 := rfl
/-- two readers that tell the same from here on -/
def Sim (r1 r2 : R) : Prop := r1 = r2 ∨ (r1.why ≠ 0 ∧ r2.why ≠ 0)
structure Stp (b2 : List UInt8) (r1 r2 r1' r2' : R) : Prop where
  sim : Sim r1' r2'
  same : r1 = r2 → r1' = r2'
  stay : r1.why ≠ 0 → r1' = r1
  good : r1'.Good
  on : r2'.On b2
theorem sim_of {α : Type} {b2 : List UInt8} {r1 r2 : R} (hs : Sim r1 r2) (F : R → R × α) (d : α) (hF : ∀ r, r.why ≠ 0 → F r = (r, d)) (hg : (F r1).1.Good) (ho : (F r2).1.On b2) : (F r1).2 = (F r2).2 ∧ Stp b2 r1 r2 (F r1).1 (F r2).1 := by
  have hst : r1.why ≠ 0 → (F r1).1 = r1 := fun h => by rw [hF r1 h]
  rcases hs with rfl | ⟨h1, h2⟩
  · exact ⟨rfl, .inl rfl, fun _ => rfl, hst, hg, ho⟩
  · refine ⟨by rw [hF r1 h1, hF r2 h2], .inr ⟨by rw [hF r1 h1]; exact h1, by rw [hF r2 h2]; exact h2⟩, fun h => by rw [h], hst, hg, ho⟩
theorem stay_take (n : Int) (r : R) (h : r.why ≠ 0) : r.take n = (r, []) := by unfold R.take; rw [if_pos h]
theorem stay_get (n : Nat) (r : R) (h : r.why ≠ 0) : r.get n = (r, 0) := by unfold R.get; rw [stay_take _ r h]; rfl
theorem stay_text (n : Int) (r : R) (h : r.why ≠ 0) : r.text n = (r, []) := by
  unfold R.text
  rw [stay_get 4 r h]
  simp only
  have e : (if (if 0 > n then 0 else n) < ((0 : Nat) : Int) then r.refuse 3 r.pos else r) = r := by
    generalize (if 0 > n then 0 else n) = z
    split
    · unfold R.refuse; rw [if_neg h]
    · rfl
  rw [e, stay_take _ r h]
theorem stay_mp (n : Int) (r : R) (h : r.why ≠ 0) : r.mp n = (r, []) := R.mp_no (stay_text n r h) (.inl h)
theorem stay_lst (r : R) (h : r.why ≠ 0) : r.lst = (r, []) := R.lst_no (stay_text 1000 r h) (.inl h)
theorem stay_rest (r : R) (h : r.why ≠ 0) : r.take r.left = (r, []) := stay_take _ r h
theorem stay_fail (n : Int) (r : R) (h : r.why ≠ 0) : (r.fail n, ()) = (r, ()) := by
  unfold R.fail R.refuse
  repeat' split
  all_goals first | rfl | contradiction
theorem n32 (x : Int) : -2147483648 ≤ IntKind.i64.wrap (IntKind.i32.wrap x) ∧ IntKind.i64.wrap (IntKind.i32.wrap x) ≤ 2147483647 := by
  have h : -2147483648 ≤ IntKind.i32.wrap x ∧ IntKind.i32.wrap x ≤ 2147483647 := by
    unfold IntKind.wrap; simp only [IntKind.bits, IntKind.signed]; simp; omega
  rw [wrap_i64_in (by omega) (by omega)]; exact h


theorem lst_len (r : R) : r.lst.2.length ≤ 140737488355328 := by
  have h := text_le r 1000
  rw [if_neg (by decide)] at h
  unfold R.lst; split
  · simp
  · split
    · have := parts_length_le 44 (r.text 1000).2
      show (parts 44 (r.text 1000).2).length ≤ _
      omega
    · simp
theorem get1_spec {V : HProp} (hM : Ml V) (pr pq : Nat) (p p2 : Option Addr) (c c2 : Nat) (b2 : List UInt8) (r1 r2 : R) (hg : r1.Good) (hi : Rin V p2 c2 b2) (hr : r2.On b2) (hs : Sim r1 r2) (x : Pt) :
    Tri Tryd.prog 33 [.pointer (some ⟨pr, 0, none⟩), .pointer (some ⟨pq, 0, none⟩), .agg x.cs.toArray] (rd pr p c r1 ++ [rq pq (.slice p2 b2.length c2) r2, V]) (fun v H' => v = .bool true ∧ ∃ r1' r2', Stp b2 r1 r2 r1' r2' ∧ H' = rd pr p c r1' ++ [rq pq (.slice p2 b2.length c2) r2', V]) := by
  refine tri_of_wpS Tryd.func33 rfl Tryd.ntmps33 (by simp) ?_
  refine wp_seq' ?_
  refine wp_region' ?_
  refine ops_eff' rfl (eff_box rfl) rfl ?_
  rintro _ _ ⟨b5, rfl, rfl⟩
  refine ops_ro' rfl (ro_assign rfl) rfl ?_
  refine ops_nil ?_
  refine Then_normal ?_
  refine wp_seq' ?_
  refine wp_region' ?_
  refine ops_ro' rfl (ro_fieldAddr fa40_1 rfl) rfl ?_
  refine ops_ro' rfl (ro_load sc38 rfl (Rd.pick 0 rfl (Rd.own rfl))) rfl ?_
  refine ops_ro' rfl (ro_conv Tryd.underlying38 Tryd.underlying21 rfl rfl) rfl ?_
  refine ops_ro' rfl (ro_conv Tryd.underlying21 Tryd.underlying3 rfl rfl) rfl ?_
  obtain ⟨n, hn, hn1, hn2⟩ : ∃ n, IntKind.i64.wrap (IntKind.i32.wrap (x.n : Int)) = n ∧ -2147483648 ≤ n ∧ n ≤ 2147483647 := ⟨_, rfl, n32 _⟩
  rw [hn]
  refine ops_ro' rfl (ro_assign rfl) rfl ?_
  refine ops_nil ?_
  refine Then_normal ?_
  refine wp_seq' ?_
  refine wp_seq' ?_
  refine wp_region' ?_
  refine ops_ro' rfl (ro_fieldAddr fa40_0 rfl) rfl ?_
  refine ops_ro' rfl (ro_load sc3 rfl (Rd.pick 0 rfl (Rd.own rfl))) rfl ?_
  refine ops_nil ?_
  refine Then_normal ?_
  refine wp_block' ?_
  refine wp_seq' ?_
  refine wp_region' ?_
  refine ops_ro' rfl (ro_eql rfl rfl rfl) rfl ?_
  refine ops_ro' rfl (ro_assign rfl) rfl ?_
  refine ops_nil ?_
  refine Then_normal ?_
  refine wp_cond' rfl (fun hc14 => ?_) (fun hc14 => ?_)
  · replace hc14 := of_decide_eq_true hc14
    refine wp_seq' ?_
    refine wp_region' ?_
    refine ops_ro' rfl (ro_move rfl) rfl ?_
    refine ops_eff' rfl (eff_call Tryd.call25 rfl rfl (by repeat (first | exact Split.nil _ | apply Split.cons 0 rfl | apply Split.cons 1 rfl | apply Split.cons 2 rfl | apply Split.cons 3 rfl | apply Split.cons 4 rfl | apply Split.cons 5 rfl | apply Split.cons 6 rfl | apply Split.cons 7 rfl | apply Split.cons 8 rfl | apply Split.cons 9 rfl | apply Split.cons 10 rfl | apply Split.cons 11 rfl)) (rByte_spec pr p c r1 hg)) rfl ?_
    rintro _ H' ⟨_, ⟨rfl, rfl⟩, hH⟩
    simp only [List.cons_append, List.nil_append, List.eraseIdx_cons_zero, List.eraseIdx_cons_succ, List.set_cons_zero, List.set_cons_succ] at hH
    subst hH
    refine ops_ro' rfl (ro_move rfl) rfl ?_
    refine ops_eff' rfl (eff_callM (Pre := [_]) Tryd.call53 rfl rfl (by repeat (first | exact Split.nil _ | apply Split.cons 0 rfl | apply Split.cons 1 rfl | apply Split.cons 2 rfl | apply Split.cons 3 rfl | apply Split.cons 4 rfl | apply Split.cons 5 rfl | apply Split.cons 6 rfl | apply Split.cons 7 rfl | apply Split.cons 8 rfl | apply Split.cons 9 rfl | apply Split.cons 10 rfl | apply Split.cons 11 rfl)) (qByte pq p2 c2 b2 r2 ⟨by first | exact Vw.pick 0 rfl hi.vw | exact Vw.pick 1 rfl hi.vw | exact Vw.pick 2 rfl hi.vw | exact Vw.pick 3 rfl hi.vw | exact Vw.pick 4 rfl hi.vw, hi.cap, hi.len⟩ hr)) rfl ?_
    rintro _ H' ⟨_, ⟨rfl, rfl⟩, hH⟩
    simp only [List.cons_append, List.nil_append, List.eraseIdx_cons_zero, List.eraseIdx_cons_succ, List.set_cons_zero, List.set_cons_succ] at hH
    subst hH
    obtain ⟨he, hst⟩ := sim_of (b2 := b2) hs (fun r => r.get 1) 0 (stay_get 1) (R.good_take hg _) (R.on_take hr _)
    try simp only at he
    refine ops_ro' rfl (ro_eql rfl rfl (decide_eq_true (by rw [he]))) rfl ?_
    refine ops_ro' rfl (ro_assign rfl) rfl ?_
    refine ops_nil ?_
    refine Then_normal ?_
    refine wp_ret' ?_
    refine InBlock_ret ?_
    refine Then_ret ?_
    refine' doneS_ret (res1 rfl rfl) ?_ ?_
    rotate_left 1
    exact ⟨rfl, _, _, hst, rfl⟩
    exact (SubH.cons 1 rfl (SubH.cons 1 rfl (SubH.cons 0 rfl (SubH.cons 1 rfl (SubH.nil _)))))
  · replace hc14 := of_decide_eq_false hc14
    refine wp_seq' ?_
    refine wp_region' ?_
    refine ops_ro' rfl (ro_eql rfl rfl rfl) rfl ?_
    refine ops_ro' rfl (ro_assign rfl) rfl ?_
    refine ops_nil ?_
    refine Then_normal ?_
    refine wp_cond' rfl (fun hc21 => ?_) (fun hc21 => ?_)
    · replace hc21 := of_decide_eq_true hc21
      refine wp_seq' ?_
      refine wp_region' ?_
      refine ops_ro' rfl (ro_move rfl) rfl ?_
      refine ops_eff' rfl (eff_call Tryd.call31 rfl rfl (by repeat (first | exact Split.nil _ | apply Split.cons 0 rfl | apply Split.cons 1 rfl | apply Split.cons 2 rfl | apply Split.cons 3 rfl | apply Split.cons 4 rfl | apply Split.cons 5 rfl | apply Split.cons 6 rfl | apply Split.cons 7 rfl | apply Split.cons 8 rfl | apply Split.cons 9 rfl | apply Split.cons 10 rfl | apply Split.cons 11 rfl)) (rBool_spec pr p c r1 hg)) rfl ?_
      rintro _ H' ⟨_, ⟨rfl, rfl⟩, hH⟩
      simp only [List.cons_append, List.nil_append, List.eraseIdx_cons_zero, List.eraseIdx_cons_succ, List.set_cons_zero, List.set_cons_succ] at hH
      subst hH
      refine ops_ro' rfl (ro_move rfl) rfl ?_
      refine ops_eff' rfl (eff_callM (Pre := [_]) Tryd.call54 rfl rfl (by repeat (first | exact Split.nil _ | apply Split.cons 0 rfl | apply Split.cons 1 rfl | apply Split.cons 2 rfl | apply Split.cons 3 rfl | apply Split.cons 4 rfl | apply Split.cons 5 rfl | apply Split.cons 6 rfl | apply Split.cons 7 rfl | apply Split.cons 8 rfl | apply Split.cons 9 rfl | apply Split.cons 10 rfl | apply Split.cons 11 rfl)) (qBool pq p2 c2 b2 r2 ⟨by first | exact Vw.pick 0 rfl hi.vw | exact Vw.pick 1 rfl hi.vw | exact Vw.pick 2 rfl hi.vw | exact Vw.pick 3 rfl hi.vw | exact Vw.pick 4 rfl hi.vw, hi.cap, hi.len⟩ hr)) rfl ?_
      rintro _ H' ⟨_, ⟨rfl, rfl⟩, hH⟩
      simp only [List.cons_append, List.nil_append, List.eraseIdx_cons_zero, List.eraseIdx_cons_succ, List.set_cons_zero, List.set_cons_succ] at hH
      subst hH
      obtain ⟨he, hst⟩ := sim_of (b2 := b2) hs (fun r => r.get 1) 0 (stay_get 1) (R.good_take hg _) (R.on_take hr _)
      try simp only at he
      refine ops_ro' rfl (ro_eql_bool Tryd.underlying4 rfl rfl (c := true) (by simp [he])) rfl ?_
      refine ops_ro' rfl (ro_assign rfl) rfl ?_
      refine ops_nil ?_
      refine Then_normal ?_
      refine wp_ret' ?_
      refine InBlock_ret ?_
      refine Then_ret ?_
      refine' doneS_ret (res1 rfl rfl) ?_ ?_
      rotate_left 1
      exact ⟨rfl, _, _, hst, rfl⟩
      exact (SubH.cons 1 rfl (SubH.cons 1 rfl (SubH.cons 0 rfl (SubH.cons 1 rfl (SubH.nil _)))))
    · replace hc21 := of_decide_eq_false hc21
      refine wp_seq' ?_
      refine wp_region' ?_
      refine ops_ro' rfl (ro_eql rfl rfl rfl) rfl ?_
      refine ops_ro' rfl (ro_assign rfl) rfl ?_
      refine ops_nil ?_
      refine Then_normal ?_
      refine wp_cond' rfl (fun hc28 => ?_) (fun hc28 => ?_)
      · replace hc28 := of_decide_eq_true hc28
        refine wp_seq' ?_
        refine wp_region' ?_
        refine ops_ro' rfl (ro_move rfl) rfl ?_
        refine ops_eff' rfl (eff_call Tryd.call26 rfl rfl (by repeat (first | exact Split.nil _ | apply Split.cons 0 rfl | apply Split.cons 1 rfl | apply Split.cons 2 rfl | apply Split.cons 3 rfl | apply Split.cons 4 rfl | apply Split.cons 5 rfl | apply Split.cons 6 rfl | apply Split.cons 7 rfl | apply Split.cons 8 rfl | apply Split.cons 9 rfl | apply Split.cons 10 rfl | apply Split.cons 11 rfl)) (rU32_spec pr p c r1 hg.len hg.pos)) rfl ?_
        rintro _ H' ⟨_, ⟨rfl, rfl⟩, hH⟩
        simp only [List.cons_append, List.nil_append, List.eraseIdx_cons_zero, List.eraseIdx_cons_succ, List.set_cons_zero, List.set_cons_succ] at hH
        subst hH
        refine ops_ro' rfl (ro_move rfl) rfl ?_
        refine ops_eff' rfl (eff_callM (Pre := [_]) Tryd.call55 rfl rfl (by repeat (first | exact Split.nil _ | apply Split.cons 0 rfl | apply Split.cons 1 rfl | apply Split.cons 2 rfl | apply Split.cons 3 rfl | apply Split.cons 4 rfl | apply Split.cons 5 rfl | apply Split.cons 6 rfl | apply Split.cons 7 rfl | apply Split.cons 8 rfl | apply Split.cons 9 rfl | apply Split.cons 10 rfl | apply Split.cons 11 rfl)) (qU32 pq p2 c2 b2 r2 ⟨by first | exact Vw.pick 0 rfl hi.vw | exact Vw.pick 1 rfl hi.vw | exact Vw.pick 2 rfl hi.vw | exact Vw.pick 3 rfl hi.vw | exact Vw.pick 4 rfl hi.vw, hi.cap, hi.len⟩ hr)) rfl ?_
        rintro _ H' ⟨_, ⟨rfl, rfl⟩, hH⟩
        simp only [List.cons_append, List.nil_append, List.eraseIdx_cons_zero, List.eraseIdx_cons_succ, List.set_cons_zero, List.set_cons_succ] at hH
        subst hH
        obtain ⟨he, hst⟩ := sim_of (b2 := b2) hs (fun r => r.get 4) 0 (stay_get 4) (R.good_take hg _) (R.on_take hr _)
        try simp only at he
        refine ops_ro' rfl (ro_eql rfl rfl (decide_eq_true (by rw [he]))) rfl ?_
        refine ops_ro' rfl (ro_assign rfl) rfl ?_
        refine ops_nil ?_
        refine Then_normal ?_
        refine wp_ret' ?_
        refine InBlock_ret ?_
        refine Then_ret ?_
        refine' doneS_ret (res1 rfl rfl) ?_ ?_
        rotate_left 1
        exact ⟨rfl, _, _, hst, rfl⟩
        exact (SubH.cons 1 rfl (SubH.cons 1 rfl (SubH.cons 0 rfl (SubH.cons 1 rfl (SubH.nil _)))))
      · replace hc28 := of_decide_eq_false hc28
        refine wp_seq' ?_
        refine wp_region' ?_
        refine ops_ro' rfl (ro_eql rfl rfl rfl) rfl ?_
        refine ops_ro' rfl (ro_assign rfl) rfl ?_
        refine ops_nil ?_
        refine Then_normal ?_
        refine wp_cond' rfl (fun hc35 => ?_) (fun hc35 => ?_)
        · replace hc35 := of_decide_eq_true hc35
          refine wp_seq' ?_
          refine wp_region' ?_
          refine ops_ro' rfl (ro_move rfl) rfl ?_
          refine ops_eff' rfl (eff_call Tryd.call27 rfl rfl (by repeat (first | exact Split.nil _ | apply Split.cons 0 rfl | apply Split.cons 1 rfl | apply Split.cons 2 rfl | apply Split.cons 3 rfl | apply Split.cons 4 rfl | apply Split.cons 5 rfl | apply Split.cons 6 rfl | apply Split.cons 7 rfl | apply Split.cons 8 rfl | apply Split.cons 9 rfl | apply Split.cons 10 rfl | apply Split.cons 11 rfl)) (rU64_spec pr p c r1 hg.len hg.pos)) rfl ?_
          rintro _ H' ⟨_, ⟨rfl, rfl⟩, hH⟩
          simp only [List.cons_append, List.nil_append, List.eraseIdx_cons_zero, List.eraseIdx_cons_succ, List.set_cons_zero, List.set_cons_succ] at hH
          subst hH
          refine ops_ro' rfl (ro_move rfl) rfl ?_
          refine ops_eff' rfl (eff_callM (Pre := [_]) Tryd.call56 rfl rfl (by repeat (first | exact Split.nil _ | apply Split.cons 0 rfl | apply Split.cons 1 rfl | apply Split.cons 2 rfl | apply Split.cons 3 rfl | apply Split.cons 4 rfl | apply Split.cons 5 rfl | apply Split.cons 6 rfl | apply Split.cons 7 rfl | apply Split.cons 8 rfl | apply Split.cons 9 rfl | apply Split.cons 10 rfl | apply Split.cons 11 rfl)) (qU64 pq p2 c2 b2 r2 ⟨by first | exact Vw.pick 0 rfl hi.vw | exact Vw.pick 1 rfl hi.vw | exact Vw.pick 2 rfl hi.vw | exact Vw.pick 3 rfl hi.vw | exact Vw.pick 4 rfl hi.vw, hi.cap, hi.len⟩ hr)) rfl ?_
          rintro _ H' ⟨_, ⟨rfl, rfl⟩, hH⟩
          simp only [List.cons_append, List.nil_append, List.eraseIdx_cons_zero, List.eraseIdx_cons_succ, List.set_cons_zero, List.set_cons_succ] at hH
          subst hH
          obtain ⟨he, hst⟩ := sim_of (b2 := b2) hs (fun r => r.get 8) 0 (stay_get 8) (R.good_take hg _) (R.on_take hr _)
          try simp only at he
          refine ops_ro' rfl (ro_eql rfl rfl (decide_eq_true (by rw [he]))) rfl ?_
          refine ops_ro' rfl (ro_assign rfl) rfl ?_
          refine ops_nil ?_
          refine Then_normal ?_
          refine wp_ret' ?_
          refine InBlock_ret ?_
          refine Then_ret ?_
          refine' doneS_ret (res1 rfl rfl) ?_ ?_
          rotate_left 1
          exact ⟨rfl, _, _, hst, rfl⟩
          exact (SubH.cons 1 rfl (SubH.cons 1 rfl (SubH.cons 0 rfl (SubH.cons 1 rfl (SubH.nil _)))))
        · replace hc35 := of_decide_eq_false hc35
          refine wp_seq' ?_
          refine wp_region' ?_
          refine ops_ro' rfl (ro_eql rfl rfl rfl) rfl ?_
          refine ops_ro' rfl (ro_assign rfl) rfl ?_
          refine ops_nil ?_
          refine Then_normal ?_
          refine wp_cond' rfl (fun hc42 => ?_) (fun hc42 => ?_)
          · replace hc42 := of_decide_eq_true hc42
            refine wp_seq' ?_
            refine wp_region' ?_
            refine ops_ro' rfl (ro_move rfl) rfl ?_
            refine ops_ro' rfl (ro_move rfl) rfl ?_
            refine ops_eff' rfl (eff_call Tryd.call28 rfl rfl (by repeat (first | exact Split.nil _ | apply Split.cons 0 rfl | apply Split.cons 1 rfl | apply Split.cons 2 rfl | apply Split.cons 3 rfl | apply Split.cons 4 rfl | apply Split.cons 5 rfl | apply Split.cons 6 rfl | apply Split.cons 7 rfl | apply Split.cons 8 rfl | apply Split.cons 9 rfl | apply Split.cons 10 rfl | apply Split.cons 11 rfl)) (rText_spec pr p c r1 hg n (by omega))) rfl ?_
            rintro _ H' ⟨_, ⟨rfl, rfl⟩, hH⟩
            simp only [List.cons_append, List.nil_append, List.eraseIdx_cons_zero, List.eraseIdx_cons_succ, List.set_cons_zero, List.set_cons_succ] at hH
            subst hH
            refine ops_ro' rfl (ro_move rfl) rfl ?_
            refine ops_ro' rfl (ro_move rfl) rfl ?_
            refine ops_eff' rfl (eff_callM (Pre := [_]) Tryd.call57 rfl rfl (by repeat (first | exact Split.nil _ | apply Split.cons 0 rfl | apply Split.cons 1 rfl | apply Split.cons 2 rfl | apply Split.cons 3 rfl | apply Split.cons 4 rfl | apply Split.cons 5 rfl | apply Split.cons 6 rfl | apply Split.cons 7 rfl | apply Split.cons 8 rfl | apply Split.cons 9 rfl | apply Split.cons 10 rfl | apply Split.cons 11 rfl)) (qText pq p2 c2 b2 r2 ⟨by first | exact Vw.pick 0 rfl hi.vw | exact Vw.pick 1 rfl hi.vw | exact Vw.pick 2 rfl hi.vw | exact Vw.pick 3 rfl hi.vw | exact Vw.pick 4 rfl hi.vw, hi.cap, hi.len⟩ hr n (by omega))) rfl ?_
            rintro _ H' ⟨_, ⟨rfl, rfl⟩, hH⟩
            simp only [List.cons_append, List.nil_append, List.eraseIdx_cons_zero, List.eraseIdx_cons_succ, List.set_cons_zero, List.set_cons_succ] at hH
            subst hH
            obtain ⟨he, hst⟩ := sim_of (b2 := b2) hs (fun r => r.text n) [] (stay_text n) (R.good_text hg _) (R.on_text hr _)
            try simp only at he
            refine ops_ro' rfl (ro_eqlS rfl rfl (decide_eq_true he)) rfl ?_
            refine ops_ro' rfl (ro_assign rfl) rfl ?_
            refine ops_nil ?_
            refine Then_normal ?_
            refine wp_ret' ?_
            refine InBlock_ret ?_
            refine Then_ret ?_
            refine' doneS_ret (res1 rfl rfl) ?_ ?_
            rotate_left 1
            exact ⟨rfl, _, _, hst, rfl⟩
            exact (SubH.cons 1 rfl (SubH.cons 1 rfl (SubH.cons 0 rfl (SubH.cons 1 rfl (SubH.nil _)))))
          · replace hc42 := of_decide_eq_false hc42
            refine wp_seq' ?_
            refine wp_region' ?_
            refine ops_ro' rfl (ro_eql rfl rfl rfl) rfl ?_
            refine ops_ro' rfl (ro_assign rfl) rfl ?_
            refine ops_nil ?_
            refine Then_normal ?_
            refine wp_cond' rfl (fun hc51 => ?_) (fun hc51 => ?_)
            · replace hc51 := of_decide_eq_true hc51
              refine wp_seq' ?_
              refine wp_draw 9 (by kernel_rfl) (Split.nil _) ?_
              refine any_ro' (i := 0) (by kernel_rfl) rfl rfl (ro_move rfl) rfl (fun _ _ _ h => h) ?_
              refine any_ro' (i := 1) (by kernel_rfl) rfl rfl (ro_move rfl) rfl (fun _ _ _ h => h) ?_
              refine any_ro' (i := 4) (by kernel_rfl) rfl rfl (ro_move rfl) rfl (fun _ _ _ h => h) ?_
              refine any_ro' (i := 5) (by kernel_rfl) rfl rfl (ro_move rfl) rfl (fun _ _ _ h => h) ?_
              refine any_eff' (i := 2) (by kernel_rfl) rfl rfl (eff_call Tryd.call29 rfl rfl (by repeat (first | exact Split.nil _ | apply Split.cons 0 rfl | apply Split.cons 1 rfl | apply Split.cons 2 rfl | apply Split.cons 3 rfl | apply Split.cons 4 rfl | apply Split.cons 5 rfl | apply Split.cons 6 rfl | apply Split.cons 7 rfl | apply Split.cons 8 rfl | apply Split.cons 9 rfl | apply Split.cons 10 rfl | apply Split.cons 11 rfl)) (rMpint_spec pr p c r1 hg n (by omega))) rfl ?_
              rintro _ H' ⟨_, ⟨pa, ca, rfl, rfl⟩, hH⟩
              simp only [List.cons_append, List.nil_append, List.eraseIdx_cons_zero, List.eraseIdx_cons_succ, List.set_cons_zero, List.set_cons_succ] at hH
              subst hH
              refine any_lock 0 rfl ?_
              simp only [List.eraseIdx_cons_zero, List.eraseIdx_cons_succ]
              refine any_ro' (i := 3) (by kernel_rfl) rfl rfl (ro_toStr Tryd.underlying28 Tryd.underlying5 Tryd.underlying9 rfl (Vw.pick 0 rfl Vw.row) rfl) rfl (fun _ _ _ h => h) ?_
              refine any_eff' (i := 6) (by kernel_rfl) rfl rfl (eff_callM (Pre := [_]) Tryd.call58 rfl rfl (by repeat (first | exact Split.nil _ | apply Split.cons 0 rfl | apply Split.cons 1 rfl | apply Split.cons 2 rfl | apply Split.cons 3 rfl | apply Split.cons 4 rfl | apply Split.cons 5 rfl | apply Split.cons 6 rfl | apply Split.cons 7 rfl | apply Split.cons 8 rfl | apply Split.cons 9 rfl | apply Split.cons 10 rfl | apply Split.cons 11 rfl)) (qMpint pq p2 c2 b2 r2 ⟨by first | exact Vw.pick 0 rfl hi.vw | exact Vw.pick 1 rfl hi.vw | exact Vw.pick 2 rfl hi.vw | exact Vw.pick 3 rfl hi.vw | exact Vw.pick 4 rfl hi.vw, hi.cap, hi.len⟩ hr n (by omega))) rfl ?_
              rintro _ H' ⟨_, ⟨pb, cb, rfl, rfl⟩, hH⟩
              simp only [List.cons_append, List.nil_append, List.eraseIdx_cons_zero, List.eraseIdx_cons_succ, List.set_cons_zero, List.set_cons_succ] at hH
              subst hH
              obtain ⟨he, hst⟩ := sim_of (b2 := b2) hs (fun r => r.mp n) [] (stay_mp n) (R.good_mp hg _) (R.on_mp hr _)
              try simp only at he
              refine any_eff' (i := 7) (by kernel_rfl) rfl rfl (eff_ro (ro_toStr Tryd.underlying28 Tryd.underlying5 Tryd.underlying9 rfl (Vw.pick 0 rfl Vw.row) rfl)) rfl ?_
              rintro _ _ ⟨rfl, rfl⟩
              refine any_ro' (i := 8) (by kernel_rfl) rfl rfl (ro_eqlS rfl rfl (decide_eq_true he)) rfl (fun _ _ _ h => h) ?_
              refine any_unlock (m' := 10) (L' := []) (by kernel_rfl) unlock ?_
              simp only [List.cons_append, List.nil_append, List.append_nil]
              refine any_ro' (i := 9) (by kernel_rfl) rfl rfl (ro_assign rfl) rfl (fun _ _ _ h => h) ?_
              refine any_doneH (by kernel_rfl) ?_
              refine Then_normal ?_
              refine wp_ret' ?_
              refine InBlock_ret ?_
              refine Then_ret ?_
              refine' doneS_ret (res1 rfl rfl) ?_ ?_
              rotate_left 1
              exact ⟨rfl, _, _, hst, rfl⟩
              exact (SubH.cons 3 rfl (SubH.cons 3 rfl (SubH.cons 2 rfl (SubH.cons 3 rfl (SubH.nil _)))))
            · replace hc51 := of_decide_eq_false hc51
              refine wp_seq' ?_
              refine wp_region' ?_
              refine ops_ro' rfl (ro_eql rfl rfl rfl) rfl ?_
              refine ops_ro' rfl (ro_assign rfl) rfl ?_
              refine ops_nil ?_
              refine Then_normal ?_
              refine wp_cond' rfl (fun hc62 => ?_) (fun hc62 => ?_)
              · replace hc62 := of_decide_eq_true hc62
                refine wp_seq' ?_
                refine wp_region' ?_
                refine ops_ro' rfl (ro_move rfl) rfl ?_
                refine ops_eff' rfl (eff_call Tryd.call13 rfl rfl (by repeat (first | exact Split.nil _ | apply Split.cons 0 rfl | apply Split.cons 1 rfl | apply Split.cons 2 rfl | apply Split.cons 3 rfl | apply Split.cons 4 rfl | apply Split.cons 5 rfl | apply Split.cons 6 rfl | apply Split.cons 7 rfl | apply Split.cons 8 rfl | apply Split.cons 9 rfl | apply Split.cons 10 rfl | apply Split.cons 11 rfl)) (rNames_spec hM pr p c r1 hg)) rfl ?_
                rintro _ H' ⟨_, ⟨pa, ca, rfl, rfl⟩, hH⟩
                simp only [List.cons_append, List.nil_append, List.eraseIdx_cons_zero, List.eraseIdx_cons_succ, List.set_cons_zero, List.set_cons_succ] at hH
                subst hH
                refine ops_ro' rfl (ro_move rfl) rfl ?_
                refine ops_eff' rfl (eff_callM (Pre := [_]) Tryd.call59 rfl rfl (by repeat (first | exact Split.nil _ | apply Split.cons 0 rfl | apply Split.cons 1 rfl | apply Split.cons 2 rfl | apply Split.cons 3 rfl | apply Split.cons 4 rfl | apply Split.cons 5 rfl | apply Split.cons 6 rfl | apply Split.cons 7 rfl | apply Split.cons 8 rfl | apply Split.cons 9 rfl | apply Split.cons 10 rfl | apply Split.cons 11 rfl)) (qNames pq p2 c2 b2 r2 ⟨by first | exact Vw.pick 0 rfl hi.vw | exact Vw.pick 1 rfl hi.vw | exact Vw.pick 2 rfl hi.vw | exact Vw.pick 3 rfl hi.vw | exact Vw.pick 4 rfl hi.vw, hi.cap, hi.len⟩ hr)) rfl ?_
                rintro _ H' ⟨_, ⟨pb, cb, rfl, rfl⟩, hH⟩
                simp only [List.cons_append, List.nil_append, List.eraseIdx_cons_zero, List.eraseIdx_cons_succ, List.set_cons_zero, List.set_cons_succ] at hH
                subst hH
                obtain ⟨he, hst⟩ := sim_of (b2 := b2) hs (fun r => r.lst) [] (stay_lst) (R.good_lst hg) (R.on_lst hr)
                try simp only at he
                refine ops_eff' rfl (eff_callM (Pre := []) Tryd.call30 rfl rfl (Split.nil _) (ktexts_spec _ r1.lst.2 r2.lst.2 _ _ _ _ (by first | exact Vw.pick 0 rfl Vw.row | exact Vw.pick 1 rfl Vw.row | exact Vw.pick 2 rfl Vw.row | exact Vw.pick 3 rfl Vw.row | exact Vw.pick 4 rfl Vw.row | exact Vw.pick 5 rfl Vw.row | exact Vw.pick 6 rfl Vw.row | exact Vw.pick 7 rfl Vw.row | exact Vw.nil _ | exact Vw.empty _ _) (by first | exact Vw.pick 0 rfl Vw.row | exact Vw.pick 1 rfl Vw.row | exact Vw.pick 2 rfl Vw.row | exact Vw.pick 3 rfl Vw.row | exact Vw.pick 4 rfl Vw.row | exact Vw.pick 5 rfl Vw.row | exact Vw.pick 6 rfl Vw.row | exact Vw.pick 7 rfl Vw.row | exact Vw.nil _ | exact Vw.empty _ _) (lst_len r1))) rfl ?_
                rintro _ H' ⟨_, ⟨rfl, rfl⟩, hH⟩
                simp only [List.cons_append, List.nil_append, List.eraseIdx_cons_zero, List.eraseIdx_cons_succ, List.set_cons_zero, List.set_cons_succ] at hH
                subst hH
                rw [decide_eq_true he]
                refine ops_ro' rfl (ro_assign rfl) rfl ?_
                refine ops_nil ?_
                refine Then_normal ?_
                refine wp_ret' ?_
                refine InBlock_ret ?_
                refine Then_ret ?_
                refine' doneS_ret (res1 rfl rfl) ?_ ?_
                rotate_left 1
                exact ⟨rfl, _, _, hst, rfl⟩
                exact (SubH.cons 3 rfl (SubH.cons 3 rfl (SubH.cons 1 rfl (SubH.cons 2 rfl (SubH.nil _)))))
              · replace hc62 := of_decide_eq_false hc62
                refine wp_seq' ?_
                refine wp_region' ?_
                refine ops_ro' rfl (ro_eql rfl rfl rfl) rfl ?_
                refine ops_ro' rfl (ro_assign rfl) rfl ?_
                refine ops_nil ?_
                refine Then_normal ?_
                refine wp_cond' rfl (fun hc69 => ?_) (fun hc69 => ?_)
                · replace hc69 := of_decide_eq_true hc69
                  refine wp_seq' ?_
                  refine wp_draw 9 (by kernel_rfl) (Split.nil _) ?_
                  refine any_ro' (i := 0) (by kernel_rfl) rfl rfl (ro_move rfl) rfl (fun _ _ _ h => h) ?_
                  refine any_ro' (i := 1) (by kernel_rfl) rfl rfl (ro_move rfl) rfl (fun _ _ _ h => h) ?_
                  refine any_ro' (i := 4) (by kernel_rfl) rfl rfl (ro_move rfl) rfl (fun _ _ _ h => h) ?_
                  refine any_ro' (i := 5) (by kernel_rfl) rfl rfl (ro_move rfl) rfl (fun _ _ _ h => h) ?_
                  refine any_eff' (i := 2) (by kernel_rfl) rfl rfl (eff_call Tryd.call32 rfl rfl (by repeat (first | exact Split.nil _ | apply Split.cons 0 rfl | apply Split.cons 1 rfl | apply Split.cons 2 rfl | apply Split.cons 3 rfl | apply Split.cons 4 rfl | apply Split.cons 5 rfl | apply Split.cons 6 rfl | apply Split.cons 7 rfl | apply Split.cons 8 rfl | apply Split.cons 9 rfl | apply Split.cons 10 rfl | apply Split.cons 11 rfl)) (rRaw_spec pr p c r1 hg n)) rfl ?_
                  rintro _ H' ⟨_, ⟨_, ⟨pa, ca, rfl, _, rfl⟩, rfl⟩, hH⟩
                  simp only [List.cons_append, List.nil_append, List.eraseIdx_cons_zero, List.eraseIdx_cons_succ, List.set_cons_zero, List.set_cons_succ] at hH
                  subst hH
                  refine any_lock 0 rfl ?_
                  simp only [List.eraseIdx_cons_zero, List.eraseIdx_cons_succ]
                  refine any_ro' (i := 3) (by kernel_rfl) rfl rfl (ro_toStr Tryd.underlying28 Tryd.underlying5 Tryd.underlying9 rfl (Vw.pick 0 rfl Vw.row) rfl) rfl (fun _ _ _ h => h) ?_
                  refine any_eff' (i := 6) (by kernel_rfl) rfl rfl (eff_callM (Pre := [_]) Tryd.call60 rfl rfl (by repeat (first | exact Split.nil _ | apply Split.cons 0 rfl | apply Split.cons 1 rfl | apply Split.cons 2 rfl | apply Split.cons 3 rfl | apply Split.cons 4 rfl | apply Split.cons 5 rfl | apply Split.cons 6 rfl | apply Split.cons 7 rfl | apply Split.cons 8 rfl | apply Split.cons 9 rfl | apply Split.cons 10 rfl | apply Split.cons 11 rfl)) (qRaw pq p2 c2 b2 r2 ⟨by first | exact Vw.pick 0 rfl hi.vw | exact Vw.pick 1 rfl hi.vw | exact Vw.pick 2 rfl hi.vw | exact Vw.pick 3 rfl hi.vw | exact Vw.pick 4 rfl hi.vw, hi.cap, hi.len⟩ hr n)) rfl ?_
                  rintro _ H' ⟨_, ⟨_, ⟨pb, cb, rfl, _, rfl⟩, rfl⟩, hH⟩
                  simp only [List.cons_append, List.nil_append, List.eraseIdx_cons_zero, List.eraseIdx_cons_succ, List.set_cons_zero, List.set_cons_succ] at hH
                  subst hH
                  obtain ⟨he, hst⟩ := sim_of (b2 := b2) hs (fun r => r.take n) [] (stay_take n) (R.good_take hg _) (R.on_take hr _)
                  try simp only at he
                  refine any_eff' (i := 7) (by kernel_rfl) rfl rfl (eff_ro (ro_toStr Tryd.underlying28 Tryd.underlying5 Tryd.underlying9 rfl (Vw.pick 0 rfl Vw.row) rfl)) rfl ?_
                  rintro _ _ ⟨rfl, rfl⟩
                  refine any_ro' (i := 8) (by kernel_rfl) rfl rfl (ro_eqlS rfl rfl (decide_eq_true he)) rfl (fun _ _ _ h => h) ?_
                  refine any_unlock (m' := 10) (L' := []) (by kernel_rfl) unlock ?_
                  simp only [List.cons_append, List.nil_append, List.append_nil]
                  refine any_ro' (i := 9) (by kernel_rfl) rfl rfl (ro_assign rfl) rfl (fun _ _ _ h => h) ?_
                  refine any_doneH (by kernel_rfl) ?_
                  refine Then_normal ?_
                  refine wp_ret' ?_
                  refine InBlock_ret ?_
                  refine Then_ret ?_
                  refine' doneS_ret (res1 rfl rfl) ?_ ?_
                  rotate_left 1
                  exact ⟨rfl, _, _, hst, rfl⟩
                  exact (SubH.cons 3 rfl (SubH.cons 3 rfl (SubH.cons 2 rfl (SubH.cons 3 rfl (SubH.nil _)))))
                · replace hc69 := of_decide_eq_false hc69
                  refine wp_seq' ?_
                  refine wp_region' ?_
                  refine ops_ro' rfl (ro_eql rfl rfl rfl) rfl ?_
                  refine ops_ro' rfl (ro_assign rfl) rfl ?_
                  refine ops_nil ?_
                  refine Then_normal ?_
                  refine wp_cond' rfl (fun hc80 => ?_) (fun hc80 => ?_)
                  · replace hc80 := of_decide_eq_true hc80
                    refine wp_seq' ?_
                    refine wp_draw 7 (by kernel_rfl) (Split.nil _) ?_
                    refine any_ro' (i := 0) (by kernel_rfl) rfl rfl (ro_move rfl) rfl (fun _ _ _ h => h) ?_
                    refine any_ro' (i := 3) (by kernel_rfl) rfl rfl (ro_move rfl) rfl (fun _ _ _ h => h) ?_
                    refine any_eff' (i := 1) (by kernel_rfl) rfl rfl (eff_call Tryd.call61 rfl rfl (by repeat (first | exact Split.nil _ | apply Split.cons 0 rfl | apply Split.cons 1 rfl | apply Split.cons 2 rfl | apply Split.cons 3 rfl | apply Split.cons 4 rfl | apply Split.cons 5 rfl | apply Split.cons 6 rfl | apply Split.cons 7 rfl | apply Split.cons 8 rfl | apply Split.cons 9 rfl | apply Split.cons 10 rfl | apply Split.cons 11 rfl)) (rRest_spec pr p c r1 hg)) rfl ?_
                    rintro _ H' ⟨_, ⟨_, ⟨pa, ca, rfl, _, rfl⟩, rfl⟩, hH⟩
                    simp only [List.cons_append, List.nil_append, List.eraseIdx_cons_zero, List.eraseIdx_cons_succ, List.set_cons_zero, List.set_cons_succ] at hH
                    subst hH
                    refine any_lock 0 rfl ?_
                    simp only [List.eraseIdx_cons_zero, List.eraseIdx_cons_succ]
                    refine any_ro' (i := 2) (by kernel_rfl) rfl rfl (ro_toStr Tryd.underlying28 Tryd.underlying5 Tryd.underlying9 rfl (Vw.pick 0 rfl Vw.row) rfl) rfl (fun _ _ _ h => h) ?_
                    refine any_eff' (i := 4) (by kernel_rfl) rfl rfl (eff_callM (Pre := [_]) Tryd.call62 rfl rfl (by repeat (first | exact Split.nil _ | apply Split.cons 0 rfl | apply Split.cons 1 rfl | apply Split.cons 2 rfl | apply Split.cons 3 rfl | apply Split.cons 4 rfl | apply Split.cons 5 rfl | apply Split.cons 6 rfl | apply Split.cons 7 rfl | apply Split.cons 8 rfl | apply Split.cons 9 rfl | apply Split.cons 10 rfl | apply Split.cons 11 rfl)) (qRest pq p2 c2 b2 r2 ⟨by first | exact Vw.pick 0 rfl hi.vw | exact Vw.pick 1 rfl hi.vw | exact Vw.pick 2 rfl hi.vw | exact Vw.pick 3 rfl hi.vw | exact Vw.pick 4 rfl hi.vw, hi.cap, hi.len⟩ hr)) rfl ?_
                    rintro _ H' ⟨_, ⟨_, ⟨pb, cb, rfl, _, rfl⟩, rfl⟩, hH⟩
                    simp only [List.cons_append, List.nil_append, List.eraseIdx_cons_zero, List.eraseIdx_cons_succ, List.set_cons_zero, List.set_cons_succ] at hH
                    subst hH
                    obtain ⟨he, hst⟩ := sim_of (b2 := b2) hs (fun r => r.take r.left) [] (stay_rest) (R.good_take hg _) (R.on_take hr _)
                    try simp only at he
                    refine any_eff' (i := 5) (by kernel_rfl) rfl rfl (eff_ro (ro_toStr Tryd.underlying28 Tryd.underlying5 Tryd.underlying9 rfl (Vw.pick 0 rfl Vw.row) rfl)) rfl ?_
                    rintro _ _ ⟨rfl, rfl⟩
                    refine any_ro' (i := 6) (by kernel_rfl) rfl rfl (ro_eqlS rfl rfl (decide_eq_true he)) rfl (fun _ _ _ h => h) ?_
                    refine any_unlock (m' := 8) (L' := []) (by kernel_rfl) unlock ?_
                    simp only [List.cons_append, List.nil_append, List.append_nil]
                    refine any_ro' (i := 7) (by kernel_rfl) rfl rfl (ro_assign rfl) rfl (fun _ _ _ h => h) ?_
                    refine any_doneH (by kernel_rfl) ?_
                    refine Then_normal ?_
                    refine wp_ret' ?_
                    refine InBlock_ret ?_
                    refine Then_ret ?_
                    refine' doneS_ret (res1 rfl rfl) ?_ ?_
                    rotate_left 1
                    exact ⟨rfl, _, _, hst, rfl⟩
                    exact (SubH.cons 3 rfl (SubH.cons 3 rfl (SubH.cons 2 rfl (SubH.cons 3 rfl (SubH.nil _)))))
                  · replace hc80 := of_decide_eq_false hc80
                    refine wp_skip' ?_
                    refine InBlock_normal ?_
                    refine Then_normal ?_
                    refine wp_seq' ?_
                    refine wp_seq' ?_
                    refine wp_region' ?_
                    refine ops_ro' rfl (ro_move rfl) rfl ?_
                    refine ops_ro' rfl (ro_gtr rfl rfl rfl) rfl ?_
                    refine ops_split rfl rfl rfl (fun hg91 => ?_) (fun hg91 => ?_)
                    · replace hg91 := of_decide_eq_true hg91
                      refine ops_ro' rfl (ro_move rfl) rfl ?_
                      refine ops_ro' rfl (ro_lss rfl rfl rfl) rfl ?_
                      refine ops_ro' rfl (ro_pick rfl rfl) rfl ?_
                      refine ops_nil ?_
                      refine Then_normal ?_
                      refine wp_cond' rfl (fun hc94 => ?_) (fun hc94 => ?_)
                      · replace hc94 := of_decide_eq_true hc94
                        refine wp_seq' ?_
                        refine wp_region' ?_
                        refine ops_ro' rfl (ro_move rfl) rfl ?_
                        refine ops_ro' rfl (ro_move rfl) rfl ?_
                        refine ops_eff' rfl (eff_call Tryd.call35 rfl rfl (by repeat (first | exact Split.nil _ | apply Split.cons 0 rfl | apply Split.cons 1 rfl | apply Split.cons 2 rfl | apply Split.cons 3 rfl | apply Split.cons 4 rfl | apply Split.cons 5 rfl | apply Split.cons 6 rfl | apply Split.cons 7 rfl | apply Split.cons 8 rfl | apply Split.cons 9 rfl | apply Split.cons 10 rfl | apply Split.cons 11 rfl)) (fail_spec pr p c r1 n)) rfl ?_
                        rintro _ H' ⟨_, ⟨rfl, rfl⟩, hH⟩
                        simp only [List.cons_append, List.nil_append, List.eraseIdx_cons_zero, List.eraseIdx_cons_succ, List.set_cons_zero, List.set_cons_succ] at hH
                        subst hH
                        refine ops_nil ?_
                        refine Then_normal ?_
                        refine wp_region' ?_
                        refine ops_ro' rfl (ro_move rfl) rfl ?_
                        refine ops_ro' rfl (ro_move rfl) rfl ?_
                        refine ops_eff' rfl (eff_call Tryd.call63 rfl rfl (by repeat (first | exact Split.nil _ | apply Split.cons 0 rfl | apply Split.cons 1 rfl | apply Split.cons 2 rfl | apply Split.cons 3 rfl | apply Split.cons 4 rfl | apply Split.cons 5 rfl | apply Split.cons 6 rfl | apply Split.cons 7 rfl | apply Split.cons 8 rfl | apply Split.cons 9 rfl | apply Split.cons 10 rfl | apply Split.cons 11 rfl)) (qfail_spec pq _ r2 n (by omega))) rfl ?_
                        rintro _ H' ⟨_, ⟨rfl, rfl⟩, hH⟩
                        simp only [List.cons_append, List.nil_append, List.eraseIdx_cons_zero, List.eraseIdx_cons_succ, List.set_cons_zero, List.set_cons_succ] at hH
                        subst hH
                        have hst := (sim_of (b2 := b2) hs (fun r => (r.fail n, ())) () (stay_fail n) (R.good_fail hg n) (R.on_fail hr n)).2
                        try simp only at hst
                        refine ops_nil ?_
                        refine Then_normal ?_
                        refine wp_seq' ?_
                        refine wp_region' ?_
                        refine ops_ro' rfl (ro_assign rfl) rfl ?_
                        refine ops_nil ?_
                        refine Then_normal ?_
                        refine wp_ret' ?_
                        refine' doneS_ret (res1 rfl rfl) ?_ ?_
                        rotate_left 1
                        exact ⟨rfl, _, _, hst, rfl⟩
                        exact (SubH.cons 1 rfl (SubH.cons 1 rfl (SubH.cons 0 rfl (SubH.cons 1 rfl (SubH.nil _)))))
                      · replace hc94 := of_decide_eq_false hc94
                        refine wp_skip' ?_
                        refine Then_normal ?_
                        refine wp_seq' ?_
                        refine wp_region' ?_
                        refine ops_ro' rfl (ro_assign rfl) rfl ?_
                        refine ops_nil ?_
                        refine Then_normal ?_
                        refine wp_ret' ?_
                        refine' doneS_ret (res1 rfl rfl) ?_ ?_
                        rotate_left 1
                        exact ⟨rfl, r1, r2, ⟨hs, fun h => h, fun _ => rfl, hg, hr⟩, rfl⟩
                        exact (SubH.cons 1 rfl (SubH.cons 1 rfl (SubH.cons 1 rfl (SubH.cons 1 rfl (SubH.nil _)))))
                    · replace hg91 := of_decide_eq_false hg91
                      refine ops_skip' rfl rfl ?_
                      refine ops_skip' rfl rfl ?_
                      refine ops_ro' rfl (ro_pick rfl rfl) rfl ?_
                      refine ops_nil ?_
                      refine Then_normal ?_
                      refine wp_condF rfl ?_
                      refine wp_skip' ?_
                      refine Then_normal ?_
                      refine wp_seq' ?_
                      refine wp_region' ?_
                      refine ops_ro' rfl (ro_assign rfl) rfl ?_
                      refine ops_nil ?_
                      refine Then_normal ?_
                      refine wp_ret' ?_
                      refine' doneS_ret (res1 rfl rfl) ?_ ?_
                      rotate_left 1
                      exact ⟨rfl, r1, r2, ⟨hs, fun h => h, fun _ => rfl, hg, hr⟩, rfl⟩
                      exact (SubH.cons 1 rfl (SubH.cons 1 rfl (SubH.cons 1 rfl (SubH.cons 1 rfl (SubH.nil _)))))


theorem same1_spec {V : HProp} (pr pq : Nat) (p p2 : Option Addr) (c c2 : Nat) (b2 : List UInt8) (r : R) (hg : r.Good) (hi : Rin V p2 c2 b2) (hr : r.On b2) :
    Tri Tryd.prog 34 [.pointer (some ⟨pr, 0, none⟩), .pointer (some ⟨pq, 0, none⟩)] (rd pr p c r ++ [rq pq (.slice p2 b2.length c2) r, V]) (fun v H' => v = .bool true ∧ H' = rd pr p c r ++ [rq pq (.slice p2 b2.length c2) r, V]) := by
  refine tri_of_wpS Tryd.func34 rfl Tryd.ntmps34 (by simp) ?_
  refine wp_seq' ?_
  refine wp_region' ?_
  refine ops_ro' rfl (ro_assign rfl) rfl ?_
  refine ops_nil ?_
  refine Then_normal ?_
  refine wp_seq' ?_
  refine wp_region' ?_
  refine ops_ro' rfl (ro_move rfl) rfl ?_
  refine ops_eff' rfl (eff_call Tryd.call14 rfl rfl (by repeat (first | exact Split.nil _ | apply Split.cons 0 rfl | apply Split.cons 1 rfl | apply Split.cons 2 rfl | apply Split.cons 3 rfl | apply Split.cons 4 rfl | apply Split.cons 5 rfl | apply Split.cons 6 rfl | apply Split.cons 7 rfl | apply Split.cons 8 rfl | apply Split.cons 9 rfl | apply Split.cons 10 rfl | apply Split.cons 11 rfl)) (end_spec pr p c r hg.len hg.pos)) rfl ?_
  rintro _ H' ⟨_, ⟨rfl, rfl⟩, hH⟩
  simp only [List.cons_append, List.nil_append, List.eraseIdx_cons_zero, List.eraseIdx_cons_succ, List.set_cons_zero, List.set_cons_succ] at hH
  subst hH
  refine ops_ro' rfl (ro_move rfl) rfl ?_
  refine ops_ro' rfl (ro_extract rfl rfl) rfl ?_
  refine ops_ro' rfl (ro_extract rfl rfl) rfl ?_
  refine ops_ro' rfl (ro_assign rfl) rfl ?_
  refine ops_ro' rfl (ro_assign rfl) rfl ?_
  refine ops_nil ?_
  refine Then_normal ?_
  refine wp_seq' ?_
  refine wp_region' ?_
  refine ops_ro' rfl (ro_move rfl) rfl ?_
  refine ops_eff' rfl (eff_call Tryd.call64 rfl rfl (by repeat (first | exact Split.nil _ | apply Split.cons 0 rfl | apply Split.cons 1 rfl | apply Split.cons 2 rfl | apply Split.cons 3 rfl | apply Split.cons 4 rfl | apply Split.cons 5 rfl | apply Split.cons 6 rfl | apply Split.cons 7 rfl | apply Split.cons 8 rfl | apply Split.cons 9 rfl | apply Split.cons 10 rfl | apply Split.cons 11 rfl)) (qEnd pq p2 c2 b2 r hr hi.len)) rfl ?_
  rintro _ H' ⟨_, ⟨rfl, rfl⟩, hH⟩
  simp only [List.cons_append, List.nil_append, List.eraseIdx_cons_zero, List.eraseIdx_cons_succ, List.set_cons_zero, List.set_cons_succ] at hH
  subst hH
  refine ops_ro' rfl (ro_move rfl) rfl ?_
  refine ops_ro' rfl (ro_extract rfl rfl) rfl ?_
  refine ops_ro' rfl (ro_extract rfl rfl) rfl ?_
  refine ops_ro' rfl (ro_assign rfl) rfl ?_
  refine ops_ro' rfl (ro_assign rfl) rfl ?_
  refine ops_nil ?_
  refine Then_normal ?_
  refine wp_seq' ?_
  refine wp_region' ?_
  refine ops_ro' rfl (ro_move rfl) rfl ?_
  refine ops_eff' rfl (eff_call Tryd.call36 rfl rfl (by repeat (first | exact Split.nil _ | apply Split.cons 0 rfl | apply Split.cons 1 rfl | apply Split.cons 2 rfl | apply Split.cons 3 rfl | apply Split.cons 4 rfl | apply Split.cons 5 rfl | apply Split.cons 6 rfl | apply Split.cons 7 rfl | apply Split.cons 8 rfl | apply Split.cons 9 rfl | apply Split.cons 10 rfl | apply Split.cons 11 rfl)) (left_spec pr p c r hg.len hg.pos)) rfl ?_
  rintro _ H' ⟨_, ⟨rfl, rfl⟩, hH⟩
  simp only [List.cons_append, List.nil_append, List.eraseIdx_cons_zero, List.eraseIdx_cons_succ, List.set_cons_zero, List.set_cons_succ] at hH
  subst hH
  refine ops_ro' rfl (ro_move rfl) rfl ?_
  refine ops_eff' rfl (eff_callM (Pre := [_]) Tryd.call65 rfl rfl (by repeat (first | exact Split.nil _ | apply Split.cons 0 rfl | apply Split.cons 1 rfl | apply Split.cons 2 rfl | apply Split.cons 3 rfl | apply Split.cons 4 rfl | apply Split.cons 5 rfl | apply Split.cons 6 rfl | apply Split.cons 7 rfl | apply Split.cons 8 rfl | apply Split.cons 9 rfl | apply Split.cons 10 rfl | apply Split.cons 11 rfl)) (qLeft pq p2 c2 b2 r ⟨by first | exact Vw.pick 0 rfl hi.vw | exact Vw.pick 1 rfl hi.vw | exact Vw.pick 2 rfl hi.vw | exact Vw.pick 3 rfl hi.vw | exact Vw.pick 4 rfl hi.vw, hi.cap, hi.len⟩ hr)) rfl ?_
  rintro _ H' ⟨_, ⟨rfl, rfl⟩, hH⟩
  simp only [List.cons_append, List.nil_append, List.eraseIdx_cons_zero, List.eraseIdx_cons_succ, List.set_cons_zero, List.set_cons_succ] at hH
  subst hH
  refine ops_ro' rfl (ro_eql rfl rfl (decide_eq_true (by omega))) rfl ?_
  refine ops_ro' rfl (ro_move (v := .bool true) rfl) rfl ?_
  refine ops_ro' rfl (ro_move rfl) rfl ?_
  refine ops_ro' rfl (ro_move rfl) rfl ?_
  refine ops_ro' rfl (ro_eql rfl rfl (decide_eq_true (by omega))) rfl ?_
  refine ops_ro' rfl (ro_pick rfl rfl) rfl ?_
  refine ops_ro' rfl (ro_move (v := .bool true) rfl) rfl ?_
  refine ops_ro' rfl (ro_move rfl) rfl ?_
  refine ops_ro' rfl (ro_move rfl) rfl ?_
  refine ops_ro' rfl (ro_eql rfl rfl (decide_eq_true (by omega))) rfl ?_
  refine ops_ro' rfl (ro_pick rfl rfl) rfl ?_
  refine ops_ro' rfl (ro_assign rfl) rfl ?_
  refine ops_nil ?_
  refine Then_normal ?_
  refine wp_ret' ?_
  refine' doneS_ret (res1 rfl rfl) ?_ ?_
  rotate_left 1
  exact ⟨rfl, rfl⟩
  exact (SubH.cons 1 rfl (SubH.cons 1 rfl (SubH.cons 0 rfl (SubH.cons 0 rfl (SubH.nil _)))))

end Go.Proofs.YtbiohhfibkolgaaDoor
