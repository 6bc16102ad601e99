/-
  The walk of WireNames.
-/
import Derived.Test.YtbiohhfibkolgaaDoorLawD
import Derived.Test.YtbiohhfibkolgaaDoorNames
import Derived.Test.YtbiohhfibkolgaaDoorRPure
import Derived.Test.YtbiohhfibkolgaaDoorQw
namespace Go.Proofs.YtbiohhfibkolgaaDoor
open Go.Sx
set_option linter.unusedVariables false
set_option linter.unusedSimpArgs false
set_option maxRecDepth 100000
set_option maxHeartbeats 4000000

theorem Pst.bad {c : UInt8} {s : List UInt8} {out : List (List UInt8)} {fr i : Nat} (h : Pst c s out fr i) (hi : i < s.length) (hc : s[i] ≠ c) (hb : nmB s[i] = false) : (parts c s).all nmOk = false := by
  have h2 := (h.go hi hc).2.2
  have hx : ∃ x ∈ parts c s, s[i] ∈ x := by
    have e : (s.drop fr).take (i + 1 - fr) = (s.drop fr).take (i - fr) ++ [s[i]] := by
      have h1 := h.1
      rw [show i + 1 - fr = (i - fr) + 1 by omega, List.take_succ_eq_append_getElem (by rw [List.length_drop]; omega), List.getElem_drop]
      congr 3; omega
    rw [h2, e]
    cases hp : parts c (s.drop (i + 1)) with
    | nil => exact absurd hp (parts_ne c _)
    | cons a t => exact ⟨(s.drop fr).take (i - fr) ++ [s[i]] ++ a, by simp [pre], by simp⟩
  obtain ⟨x, hx, hm⟩ := hx
  cases hh : (parts c s).all nmOk with
  | false => rfl
  | true =>
    have h3 := List.all_eq_true.1 hh x hx
    unfold nmOk at h3
    simp only [Bool.and_eq_true] at h3
    have h4 := List.all_eq_true.1 h3.1.1 _ hm
    rw [hb] at h4; cases h4
theorem all_no {l : List (List UInt8)} {x : List UInt8} (h : x ∈ l) (hb : nmOk x = false) : l.all nmOk = false := by
  cases hh : l.all nmOk with
  | false => rfl
  | true => have := List.all_eq_true.1 hh x h; rw [hb] at this; cases this
theorem Pst.tail {c : UInt8} {s : List UInt8} {out : List (List UInt8)} {fr i : Nat} (h : Pst c s out fr i) (hi : i < s.length) (hc : s[i] = c) (hl : i + 1 = s.length) : (parts c s).all nmOk = false := by
  have h2 := ((h.cut (.inr ⟨hi, hc⟩)).2.1 (by omega)).cut (.inl hl)
  exact all_no h2.1 (by rw [show (s.drop (i + 1)).take (i + 1 - (i + 1)) = [] by simp]; rfl)
theorem nmOk_len {x : List UInt8} (h : nmOk x = true) : 0 < x.length ∧ x.length ≤ 64 := by
  unfold nmOk at h
  simp only [Bool.and_eq_true, decide_eq_true_eq] at h
  exact ⟨List.length_pos_iff.2 h.1.2, h.2⟩
theorem nmOk_mk {x : List UInt8} (h : x.all nmB = true) (h1 : 0 < x.length) (h2 : x.length ≤ 64) : nmOk x = true := by
  rw [nmOk_all h, decide_eq_true (List.length_pos_iff.1 h1), decide_eq_true h2]; rfl
/-- how far names were looked at: all is fine till here, or it cannot be any more -/
def Fin (s : List UInt8) (f : Bool) (size i : Nat) : Prop := ∃ out fr, Pst 44 s out fr i ∧ size = i - fr ∧ (f = true → out.all nmOk = true ∧ ((s.drop fr).take (i - fr)).all nmB = true) ∧ (f = false → (parts 44 s).all nmOk = false ∧ 0 < i)
theorem Fin.init (s : List UInt8) : Fin s true 0 0 := ⟨[], 0, Pst.init 44 s, rfl, fun _ => ⟨rfl, by simp⟩, fun h => by cases h⟩
theorem Fin.size_le {s : List UInt8} {f : Bool} {size i : Nat} (h : Fin s f size i) : size ≤ i ∧ i ≤ s.length := by
  obtain ⟨out, fr, h1, h2, _⟩ := h; exact ⟨by omega, h1.2.1⟩
theorem Fin.comma {s : List UInt8} {f f' : Bool} {size i : Nat} (h : Fin s f size i) (hi : i < s.length) (hc : s[i] = 44) (hf : f' = true ↔ (f = true ∧ 0 < size ∧ size ≤ 64 ∧ i + 1 < s.length)) : Fin s f' 0 (i + 1) := by
  obtain ⟨out, fr, h1, h2, h3, h4⟩ := h
  have hcut := h1.cut (.inr ⟨hi, hc⟩)
  have hl : ((s.drop fr).take (i - fr)).length = size := by have := h1.1; simp; omega
  refine ⟨_, _, hcut.2.1 (by omega), by omega, fun hh => ?_, fun hh => ?_⟩
  · obtain ⟨a, b, c, d⟩ := hf.1 hh
    obtain ⟨e, g⟩ := h3 a
    exact ⟨by rw [List.all_append, e]; simp [nmOk_mk g (by omega) (by omega)], by simp⟩
  · cases f with
    | false => exact ⟨(h4 rfl).1, by omega⟩
    | true =>
      refine ⟨?_, by omega⟩
      obtain ⟨e, g⟩ := h3 rfl
      by_cases hs : i + 1 < s.length
      · refine all_no hcut.1 ?_
        cases hk : nmOk ((s.drop fr).take (i - fr)) with
        | false => rfl
        | true =>
          have := nmOk_len hk
          rw [hf.2 ⟨rfl, by omega, by omega, hs⟩] at hh; cases hh
      · exact h1.tail hi hc (by omega)
theorem Fin.go {s : List UInt8} {f f' : Bool} {size i : Nat} (h : Fin s f size i) (hi : i < s.length) (hc : s[i] ≠ 44) (hf : f' = true ↔ (f = true ∧ 33 ≤ s[i].toNat ∧ s[i].toNat ≤ 126)) : Fin s f' (size + 1) (i + 1) := by
  obtain ⟨out, fr, h1, h2, h3, h4⟩ := h
  have hb : nmB s[i] = true ↔ 33 ≤ s[i].toNat ∧ s[i].toNat ≤ 126 := by
    have h44 : s[i].toNat ≠ 44 := fun e => hc (UInt8.toNat_inj.1 e)
    simp [nmB, h44]
  have h0 := h1.1
  have e : (s.drop fr).take (i + 1 - fr) = (s.drop fr).take (i - fr) ++ [s[i]] := by
    rw [show i + 1 - fr = (i - fr) + 1 by omega, List.take_succ_eq_append_getElem (by rw [List.length_drop]; omega), List.getElem_drop]
    congr 3; omega
  refine ⟨out, fr, h1.go hi hc, by omega, fun hh => ?_, fun hh => ?_⟩
  · obtain ⟨a, b⟩ := hf.1 hh
    obtain ⟨c, d⟩ := h3 a
    exact ⟨c, by rw [e, List.all_append, d]; simp [hb.2 b]⟩
  · cases f with
    | false => exact ⟨(h4 rfl).1, by omega⟩
    | true =>
      refine ⟨?_, by omega⟩
      refine h1.bad hi hc ?_
      cases hk : nmB s[i] with
      | false => rfl
      | true => rw [hf.2 ⟨rfl, hb.1 hk⟩] at hh; cases hh
/-- what is fine at the end -/
theorem Fin.done {s : List UInt8} {f : Bool} {size : Nat} (h : Fin s f size s.length) : (f = true ∧ (s.length = 0 ∨ (0 < size ∧ size ≤ 64))) ↔ (s = [] ∨ (parts 44 s).all nmOk = true) := by
  obtain ⟨out, fr, h1, h2, h3, h4⟩ := h
  have hcut := h1.cut (.inl rfl)
  have hp := hcut.2.2 rfl
  have h0 := h1.1
  have hl : ((s.drop fr).take (s.length - fr)).length = size := by simp; omega
  constructor
  · rintro ⟨a, b⟩
    rcases b with b | ⟨b, c⟩
    · exact .inl (List.eq_nil_of_length_eq_zero b)
    · obtain ⟨d, e⟩ := h3 a
      exact .inr (by rw [hp, List.all_append, d]; simp [nmOk_mk e (by omega) (by omega)])
  · rintro (rfl | hh)
    · refine ⟨?_, .inl rfl⟩
      cases f with
      | true => rfl
      | false => have := (h4 rfl).2; simp at this
    · refine ⟨?_, .inr ?_⟩
      · cases f with
        | true => rfl
        | false => rw [(h4 rfl).1] at hh; cases hh
      · have := nmOk_len (List.all_eq_true.1 hh _ hcut.1)
        omega
theorem names_new {x : List UInt8} (hx : x.length ≤ 300) {q : R} {L : List (List UInt8)} (e : (R.new (be x.length 4 ++ x)).lst = (q, L)) :
    ((x = [] ∨ (parts 44 x).all nmOk = true) → q.fin = ((0 : Int), (0 : Int)) ∧ joinc 44 L = x) ∧ (¬ (x = [] ∨ (parts 44 x).all nmOk = true) → q.fin = ((12 : Int), (0 : Int)) ∧ L = []) := by
  have h0 : Here (R.new (be x.length 4 ++ x)) (be x.length 4 ++ x ++ []) := by rw [List.append_nil]; exact Here.new _
  have ht := text_here h0 1000 (by omega) (by omega)
  have hw : ((R.new (be x.length 4 ++ x)).adv (4 + x.length)).why = 0 := rfl
  have hp : ((R.new (be x.length 4 ++ x)).adv (4 + x.length)).pos = 4 + x.length := by show 0 + (4 + x.length) = _; omega
  have hb : ((R.new (be x.length 4 ++ x)).adv (4 + x.length)).b = be x.length 4 ++ x := rfl
  have hf : ((R.new (be x.length 4 ++ x)).adv (4 + x.length)).fin = ((0 : Int), (0 : Int)) := by
    unfold R.fin; rw [if_pos hw, if_neg (by rw [hp, hb]; simp [be_length])]
  generalize (R.new (be x.length 4 ++ x)).adv (4 + x.length) = z at *
  by_cases h1 : x = []
  · rw [R.lst_no ht (.inr h1)] at e
    injection e with e1 e2
    subst e1; subst e2; subst h1
    exact ⟨fun _ => ⟨hf, rfl⟩, fun h => absurd (.inl rfl) h⟩
  · cases h2 : (parts 44 x).all nmOk with
    | true =>
      rw [R.lst_good ht hw h1 h2] at e
      injection e with e1 e2
      subst e1; subst e2
      exact ⟨fun _ => ⟨hf, joinc_parts 44 x⟩, fun h => absurd (.inr rfl) h⟩
    | false =>
      rw [R.lst_bad ht hw h1 h2] at e
      injection e with e1 e2
      subst e1; subst e2
      refine ⟨fun h => ?_, fun _ => ⟨?_, rfl⟩⟩
      · rcases h with h | h
        · exact absurd h h1
        · cases h
      · unfold R.fin R.refuse
        rw [if_pos hw]; rfl


theorem jn_le (L : List (List UInt8)) : ∀ i, (joinc 44 (L.take i)).length ≤ (joinc 44 L).length := fun i => by
  by_cases h0 : L.take i = []
  · rw [h0]; exact Nat.zero_le _
  · by_cases h1 : L.drop i = []
    · rw [List.take_of_length_le (List.drop_eq_nil_iff.1 h1)]; exact Nat.le_refl _
    · have h := joinc_append 44 h0 h1
      rw [List.take_append_drop] at h
      rw [h]; simp
theorem jn_mem {L : List (List UInt8)} {i : Nat} (hi : i < L.length) : L[i].length ≤ (joinc 44 L).length := by
  have h := jn_le L (i + 1)
  by_cases h0 : i = 0
  · rw [jnc_zero hi h0] at h; simp at h; omega
  · rw [jnc_succ hi (by omega)] at h; simp at h; omega
theorem wnames_run (V : HProp) (hM : Ml V) (s : List UInt8) : Tri Tryd.prog 3 [.string (str s)] [V] (fun v H' => v = .bool true ∧ H' = [V]) := by
  refine tri_of_wpS Tryd.func3 rfl Tryd.ntmps3 (by simp) ?_
  refine wp_seq' ?_
  refine wp_region' ?_
  refine ops_ro' rfl (ro_assign rfl) rfl ?_
  refine ops_nil ?_
  refine Then_normal ?_
  refine wp_seq' ?_
  refine wp_region' ?_
  refine ops_ro' rfl (ro_move rfl) rfl ?_
  refine ops_eff' rfl (eff_call Tryd.call8 rfl rfl (by repeat (first | exact Split.nil _ | apply Split.cons 0 rfl | apply Split.cons 1 rfl | apply Split.cons 2 rfl | apply Split.cons 3 rfl | apply Split.cons 4 rfl | apply Split.cons 5 rfl | apply Split.cons 6 rfl | apply Split.cons 7 rfl | apply Split.cons 8 rfl | apply Split.cons 9 rfl | apply Split.cons 10 rfl | apply Split.cons 11 rfl)) (kHead s 300)) rfl ?_
  rintro _ H' ⟨_, ⟨rfl, rfl⟩, hH⟩
  simp only [List.cons_append, List.nil_append, List.eraseIdx_cons_zero, List.eraseIdx_cons_succ, List.set_cons_zero, List.set_cons_succ] at hH
  subst hH
  have hx : (s.take 300).length ≤ 300 := by simp; omega
  generalize ex : s.take 300 = x at *
  refine ops_ro' rfl (ro_assign rfl) rfl ?_
  refine ops_nil ?_
  refine Then_normal ?_
  refine wp_seq' ?_
  refine wp_region' ?_
  refine ops_eff' rfl (eff_call Tryd.call9 rfl rfl (by repeat (first | exact Split.nil _ | apply Split.cons 0 rfl | apply Split.cons 1 rfl | apply Split.cons 2 rfl | apply Split.cons 3 rfl | apply Split.cons 4 rfl | apply Split.cons 5 rfl | apply Split.cons 6 rfl | apply Split.cons 7 rfl | apply Split.cons 8 rfl | apply Split.cons 9 rfl | apply Split.cons 10 rfl | apply Split.cons 11 rfl)) (newWriter_spec)) rfl ?_
  rintro _ H' ⟨_, ⟨pw, rfl, rfl⟩, hH⟩
  simp only [List.cons_append, List.nil_append, List.eraseIdx_cons_zero, List.eraseIdx_cons_succ, List.set_cons_zero, List.set_cons_succ] at hH
  subst hH
  refine ops_ro' rfl (ro_assign rfl) rfl ?_
  refine ops_nil ?_
  refine Then_normal ?_
  refine wp_seq' ?_
  refine wp_seq' ?_
  refine wp_region' ?_
  refine ops_ro' rfl (ro_move rfl) rfl ?_
  refine ops_ro' rfl (ro_ptrEqlNil Tryd.underlying23 rfl rfl rfl) rfl ?_
  refine ops_nil ?_
  refine Then_normal ?_
  refine wp_condF rfl ?_
  refine wp_skip' ?_
  refine Then_normal ?_
  refine wp_seq' ?_
  refine wp_region' ?_
  refine ops_ro' rfl (ro_move rfl) rfl ?_
  refine ops_ro' rfl (ro_move rfl) rfl ?_
  refine ops_eff' rfl (eff_call Tryd.call10 rfl rfl (by repeat (first | exact Split.nil _ | apply Split.cons 0 rfl | apply Split.cons 1 rfl | apply Split.cons 2 rfl | apply Split.cons 3 rfl | apply Split.cons 4 rfl | apply Split.cons 5 rfl | apply Split.cons 6 rfl | apply Split.cons 7 rfl | apply Split.cons 8 rfl | apply Split.cons 9 rfl | apply Split.cons 10 rfl | apply Split.cons 11 rfl)) (text_at pw none 0 [] x (by simp; omega))) rfl ?_
  rintro _ H' ⟨_, ⟨p1, c1, rfl, rfl⟩, hH⟩
  simp only [List.cons_append, List.nil_append, List.eraseIdx_cons_zero, List.eraseIdx_cons_succ, List.set_cons_zero, List.set_cons_succ] at hH
  subst hH
  refine ops_nil ?_
  refine Then_normal ?_
  refine wp_seq' ?_
  refine wp_region' ?_
  refine ops_ro' rfl (ro_move rfl) rfl ?_
  refine ops_eff' rfl (eff_call Tryd.call12 rfl rfl (by repeat (first | exact Split.nil _ | apply Split.cons 0 rfl | apply Split.cons 1 rfl | apply Split.cons 2 rfl | apply Split.cons 3 rfl | apply Split.cons 4 rfl | apply Split.cons 5 rfl | apply Split.cons 6 rfl | apply Split.cons 7 rfl | apply Split.cons 8 rfl | apply Split.cons 9 rfl | apply Split.cons 10 rfl | apply Split.cons 11 rfl)) (done_spec pw p1 c1 (be x.length 4 ++ x) (by simp only [List.length_append, be_length]; omega))) rfl ?_
  rintro _ H' ⟨_, ⟨p2, c2, rfl, _, rfl⟩, hH⟩
  simp only [List.cons_append, List.nil_append, List.eraseIdx_cons_zero, List.eraseIdx_cons_succ, List.set_cons_zero, List.set_cons_succ] at hH
  subst hH
  refine ops_eff' rfl (eff_call Tryd.call11 rfl rfl (by repeat (first | exact Split.nil _ | apply Split.cons 0 rfl | apply Split.cons 1 rfl | apply Split.cons 2 rfl | apply Split.cons 3 rfl | apply Split.cons 4 rfl | apply Split.cons 5 rfl | apply Split.cons 6 rfl | apply Split.cons 7 rfl | apply Split.cons 8 rfl | apply Split.cons 9 rfl | apply Split.cons 10 rfl | apply Split.cons 11 rfl)) (newReader_spec _ _ _ (be x.length 4 ++ x) Vw.row (by simp only [List.length_append, be_length]; omega))) rfl ?_
  rintro _ H' ⟨_, ⟨pr, p3, c3, rfl, rfl⟩, hH⟩
  simp only [List.cons_append, List.nil_append, List.eraseIdx_cons_zero, List.eraseIdx_cons_succ, List.set_cons_zero, List.set_cons_succ] at hH
  subst hH
  have hg0 := R.good_new (be x.length 4 ++ x) (by simp only [List.length_append, be_length]; omega)
  refine ops_ro' rfl (ro_assign rfl) rfl ?_
  refine ops_nil ?_
  refine Then_normal ?_
  refine wp_seq' ?_
  refine wp_seq' ?_
  refine wp_region' ?_
  refine ops_ro' rfl (ro_move rfl) rfl ?_
  refine ops_ro' rfl (ro_ptrEqlNil Tryd.underlying26 rfl rfl rfl) rfl ?_
  refine ops_nil ?_
  refine Then_normal ?_
  refine wp_condF rfl ?_
  refine wp_skip' ?_
  refine Then_normal ?_
  refine wp_seq' ?_
  refine wp_region' ?_
  refine ops_ro' rfl (ro_move rfl) rfl ?_
  refine ops_eff' rfl (eff_call Tryd.call13 rfl rfl (by repeat (first | exact Split.nil _ | apply Split.cons 0 rfl | apply Split.cons 1 rfl | apply Split.cons 2 rfl | apply Split.cons 3 rfl | apply Split.cons 4 rfl | apply Split.cons 5 rfl | apply Split.cons 6 rfl | apply Split.cons 7 rfl | apply Split.cons 8 rfl | apply Split.cons 9 rfl | apply Split.cons 10 rfl | apply Split.cons 11 rfl)) (rNames_spec hM pr p3 c3 _ hg0)) rfl ?_
  rintro _ H' ⟨_, ⟨pl, cl, rfl, rfl⟩, hH⟩
  simp only [List.cons_append, List.nil_append, List.eraseIdx_cons_zero, List.eraseIdx_cons_succ, List.set_cons_zero, List.set_cons_succ] at hH
  subst hH
  have hg1 := R.good_lst hg0
  have hll := lst_len (R.new (be x.length 4 ++ x))
  generalize el : (R.new (be x.length 4 ++ x)).lst = t at *
  obtain ⟨q, L⟩ := t
  simp only at *
  obtain ⟨hyn, hnn⟩ := names_new hx el
  refine ops_ro' rfl (ro_assign rfl) rfl ?_
  refine ops_nil ?_
  refine Then_normal ?_
  refine wp_seq' ?_
  refine wp_region' ?_
  refine ops_ro' rfl (ro_move rfl) rfl ?_
  refine ops_eff' rfl (eff_call Tryd.call14 rfl rfl (by repeat (first | exact Split.nil _ | apply Split.cons 0 rfl | apply Split.cons 1 rfl | apply Split.cons 2 rfl | apply Split.cons 3 rfl | apply Split.cons 4 rfl | apply Split.cons 5 rfl | apply Split.cons 6 rfl | apply Split.cons 7 rfl | apply Split.cons 8 rfl | apply Split.cons 9 rfl | apply Split.cons 10 rfl | apply Split.cons 11 rfl)) (end_spec pr p3 c3 q hg1.len hg1.pos)) rfl ?_
  rintro _ H' ⟨_, ⟨rfl, rfl⟩, hH⟩
  simp only [List.cons_append, List.nil_append, List.eraseIdx_cons_zero, List.eraseIdx_cons_succ, List.set_cons_zero, List.set_cons_succ] at hH
  subst hH
  refine ops_ro' rfl (ro_move rfl) rfl ?_
  refine ops_ro' rfl (ro_extract rfl rfl) rfl ?_
  refine ops_ro' rfl (ro_extract rfl rfl) rfl ?_
  refine ops_ro' rfl (ro_assign rfl) rfl ?_
  refine ops_ro' rfl (ro_assign rfl) rfl ?_
  refine ops_nil ?_
  refine Then_normal ?_
  refine wp_seq' ?_
  refine wp_region' ?_
  refine ops_ro' rfl (ro_assign rfl) rfl ?_
  refine ops_nil ?_
  refine Then_normal ?_
  refine wp_seq' ?_
  refine wp_region' ?_
  refine ops_ro' rfl (ro_assign rfl) rfl ?_
  refine ops_nil ?_
  refine Then_normal ?_
  refine wp_seq' ?_
  refine wp_seq' ?_
  refine wp_region' ?_
  refine ops_ro' rfl (ro_assign rfl) rfl ?_
  refine ops_nil ?_
  refine Then_normal ?_
  refine wp_block' ?_
  refine wp_loopK 14 (fun m Δ LL => ∃ (f : Bool) (z i : Nat), (i + m = x.length ∧ Fin x f z i) ∧ Δ = [(8, .bool f), (9, .int .i64 (z : Nat)), (10, .int .i64 (i : Nat))] ∧ LL = [row 9 1 (.slice pl L.length cl) L.length (txs L), V]) (m := x.length) (Has.cons (k := 0) rfl (Has.cons (k := 5) rfl (Has.cons (k := 6) rfl (Has.cons (k := 7) rfl (Has.nil _))))) (kept ⟨true, 0, 0, ⟨by omega, Fin.init x⟩, rfl, rfl⟩ (by repeat (first | exact Has.nil _ | refine Has.cons rfl ?_)) (by repeat (first | exact Has.nil _ | refine Has.cons rfl ?_)) (by repeat (first | exact SubH.nil _ | refine SubH.cons 0 rfl ?_ | refine SubH.cons 1 rfl ?_ | refine SubH.cons 2 rfl ?_ | refine SubH.cons 3 rfl ?_ | refine SubH.cons 4 rfl ?_ | refine SubH.cons 5 rfl ?_ | refine SubH.cons 6 rfl ?_ | refine SubH.cons 7 rfl ?_ | refine SubH.cons 8 rfl ?_ | refine SubH.cons 9 rfl ?_ | refine SubH.cons 10 rfl ?_ | refine SubH.cons 11 rfl ?_ | refine SubH.cons 12 rfl ?_ | refine SubH.cons 13 rfl ?_ | refine SubH.rown ?_))) ?_
  rintro m Δ LL ⟨f, z, i, ⟨hm, hF⟩, rfl, rfl⟩
  simp only [List.cons_append, List.nil_append]
  refine wp_seq' ?_
  refine wp_seq' ?_
  refine wp_region' ?_
  refine ops_ro' rfl (ro_move rfl) rfl ?_
  refine ops_ro' rfl (ro_move rfl) rfl ?_
  refine ops_ro' rfl (ro_lenS (t' := 0) Tryd.underlying9 rfl) rfl ?_
  refine ops_ro' rfl (ro_lss rfl rfl rfl) rfl ?_
  refine ops_nil ?_
  refine Then_normal ?_
  refine wp_cond' rfl (fun hc36 => ?_) (fun hc36 => ?_)
  · replace hc36 := of_decide_eq_true hc36
    have hi : i < x.length := by omega
    have hsz := hF.size_le
    refine wp_skip' ?_
    refine Then_normal ?_
    refine wp_seq' ?_
    refine wp_block' ?_
    refine wp_seq' ?_
    refine wp_seq' ?_
    refine wp_region' ?_
    refine ops_ro' rfl (ro_move rfl) rfl ?_
    refine ops_ro' rfl (ro_move rfl) rfl ?_
    refine ops_ro' rfl (ro_indexS Tryd.underlying9 rfl rfl rfl (by omega)) rfl ?_
    refine ops_ro' rfl (ro_eql rfl rfl rfl) rfl ?_
    refine ops_nil ?_
    refine Then_normal ?_
    refine wp_cond' rfl (fun hc42 => ?_) (fun hc42 => ?_)
    · replace hc42 := of_decide_eq_true hc42
      have hcm : x[i] = 44 := UInt8.toNat_inj.1 (show x[i].toNat = 44 by omega)
      refine wp_seq' ?_
      refine wp_region' ?_
      refine ops_ro' rfl (ro_move rfl) rfl ?_
      refine ops_split rfl rfl rfl (fun hg44 => ?_) (fun hg44 => ?_)
      · skip
        subst hg44
        refine ops_ro' rfl (ro_move rfl) rfl ?_
        refine ops_ro' rfl (ro_gtr rfl rfl rfl) rfl ?_
        refine ops_ro' rfl (ro_pick rfl rfl) rfl ?_
        refine ops_split rfl rfl rfl (fun hg48 => ?_) (fun hg48 => ?_)
        · replace hg48 := of_decide_eq_true hg48
          refine ops_ro' rfl (ro_move rfl) rfl ?_
          refine ops_ro' rfl (ro_leq rfl rfl rfl) rfl ?_
          refine ops_ro' rfl (ro_pick rfl rfl) rfl ?_
          refine ops_split rfl rfl rfl (fun hg52 => ?_) (fun hg52 => ?_)
          · replace hg52 := of_decide_eq_true hg52
            refine ops_ro' rfl (ro_move rfl) rfl ?_
            refine ops_ro' rfl (ro_add rfl rfl (wrap_inc (by omega))) rfl ?_
            refine ops_ro' rfl (ro_move rfl) rfl ?_
            refine ops_ro' rfl (ro_lenS (t' := 0) Tryd.underlying9 rfl) rfl ?_
            refine ops_ro' rfl (ro_lss rfl rfl rfl) rfl ?_
            refine ops_ro' rfl (ro_pick rfl rfl) rfl ?_
            refine ops_ro' rfl (ro_assign rfl) rfl ?_
            refine ops_nil ?_
            refine Then_normal ?_
            refine wp_seq' ?_
            refine wp_region' ?_
            refine ops_ro' rfl (ro_assign rfl) rfl ?_
            refine ops_nil ?_
            refine Then_normal ?_
            refine wp_exit' ?_
            refine Then_exit ?_
            refine InBlock_here ?_
            refine Then_normal ?_
            refine wp_region' ?_
            refine ops_ro' rfl (ro_move rfl) rfl ?_
            refine ops_ro' rfl (ro_add rfl rfl (wrap_inc (by omega))) rfl ?_
            refine ops_ro' rfl (ro_assign rfl) rfl ?_
            refine ops_nil ?_
            refine Then_normal ?_
            refine back (m - 1) (by omega) (kept ⟨decide (((i + 1 : Nat) : Int) < ((x.length : Nat) : Int)), 0, i + 1, ⟨by omega, hF.comma hi hcm (by simp <;> omega)⟩, rfl, rfl⟩ ?_ ?_ ?_)
            · exact (by repeat (first | exact Has.nil _ | refine Has.cons rfl ?_))
            · exact (by repeat (first | exact Has.nil _ | refine Has.cons rfl ?_))
            · exact SubH.refl _
          · replace hg52 := of_decide_eq_false hg52
            refine ops_skip' rfl rfl ?_
            refine ops_skip' rfl rfl ?_
            refine ops_skip' rfl rfl ?_
            refine ops_skip' rfl rfl ?_
            refine ops_skip' rfl rfl ?_
            refine ops_ro' rfl (ro_pick rfl rfl) rfl ?_
            refine ops_ro' rfl (ro_assign rfl) rfl ?_
            refine ops_nil ?_
            refine Then_normal ?_
            refine wp_seq' ?_
            refine wp_region' ?_
            refine ops_ro' rfl (ro_assign rfl) rfl ?_
            refine ops_nil ?_
            refine Then_normal ?_
            refine wp_exit' ?_
            refine Then_exit ?_
            refine InBlock_here ?_
            refine Then_normal ?_
            refine wp_region' ?_
            refine ops_ro' rfl (ro_move rfl) rfl ?_
            refine ops_ro' rfl (ro_add rfl rfl (wrap_inc (by omega))) rfl ?_
            refine ops_ro' rfl (ro_assign rfl) rfl ?_
            refine ops_nil ?_
            refine Then_normal ?_
            refine back (m - 1) (by omega) (kept ⟨false, 0, i + 1, ⟨by omega, hF.comma hi hcm (by simp <;> omega)⟩, rfl, rfl⟩ ?_ ?_ ?_)
            · exact (by repeat (first | exact Has.nil _ | refine Has.cons rfl ?_))
            · exact (by repeat (first | exact Has.nil _ | refine Has.cons rfl ?_))
            · exact SubH.refl _
        · replace hg48 := of_decide_eq_false hg48
          refine ops_skip' rfl rfl ?_
          refine ops_skip' rfl rfl ?_
          refine ops_ro' rfl (ro_pick rfl rfl) rfl ?_
          refine ops_ro' rfl (ro_move (v := .bool false) rfl) rfl ?_
          refine ops_skip' rfl rfl ?_
          refine ops_skip' rfl rfl ?_
          refine ops_skip' rfl rfl ?_
          refine ops_skip' rfl rfl ?_
          refine ops_skip' rfl rfl ?_
          refine ops_ro' rfl (ro_pick rfl rfl) rfl ?_
          refine ops_ro' rfl (ro_assign rfl) rfl ?_
          refine ops_nil ?_
          refine Then_normal ?_
          refine wp_seq' ?_
          refine wp_region' ?_
          refine ops_ro' rfl (ro_assign rfl) rfl ?_
          refine ops_nil ?_
          refine Then_normal ?_
          refine wp_exit' ?_
          refine Then_exit ?_
          refine InBlock_here ?_
          refine Then_normal ?_
          refine wp_region' ?_
          refine ops_ro' rfl (ro_move rfl) rfl ?_
          refine ops_ro' rfl (ro_add rfl rfl (wrap_inc (by omega))) rfl ?_
          refine ops_ro' rfl (ro_assign rfl) rfl ?_
          refine ops_nil ?_
          refine Then_normal ?_
          refine back (m - 1) (by omega) (kept ⟨false, 0, i + 1, ⟨by omega, hF.comma hi hcm (by simp <;> omega)⟩, rfl, rfl⟩ ?_ ?_ ?_)
          · exact (by repeat (first | exact Has.nil _ | refine Has.cons rfl ?_))
          · exact (by repeat (first | exact Has.nil _ | refine Has.cons rfl ?_))
          · exact SubH.refl _
      · skip
        subst hg44
        refine ops_skip' rfl rfl ?_
        refine ops_skip' rfl rfl ?_
        refine ops_ro' rfl (ro_pick rfl rfl) rfl ?_
        refine ops_ro' rfl (ro_move (v := .bool false) rfl) rfl ?_
        refine ops_skip' rfl rfl ?_
        refine ops_skip' rfl rfl ?_
        refine ops_ro' rfl (ro_pick rfl rfl) rfl ?_
        refine ops_ro' rfl (ro_move (v := .bool false) rfl) rfl ?_
        refine ops_skip' rfl rfl ?_
        refine ops_skip' rfl rfl ?_
        refine ops_skip' rfl rfl ?_
        refine ops_skip' rfl rfl ?_
        refine ops_skip' rfl rfl ?_
        refine ops_ro' rfl (ro_pick rfl rfl) rfl ?_
        refine ops_ro' rfl (ro_assign rfl) rfl ?_
        refine ops_nil ?_
        refine Then_normal ?_
        refine wp_seq' ?_
        refine wp_region' ?_
        refine ops_ro' rfl (ro_assign rfl) rfl ?_
        refine ops_nil ?_
        refine Then_normal ?_
        refine wp_exit' ?_
        refine Then_exit ?_
        refine InBlock_here ?_
        refine Then_normal ?_
        refine wp_region' ?_
        refine ops_ro' rfl (ro_move rfl) rfl ?_
        refine ops_ro' rfl (ro_add rfl rfl (wrap_inc (by omega))) rfl ?_
        refine ops_ro' rfl (ro_assign rfl) rfl ?_
        refine ops_nil ?_
        refine Then_normal ?_
        refine back (m - 1) (by omega) (kept ⟨false, 0, i + 1, ⟨by omega, hF.comma hi hcm (by simp <;> omega)⟩, rfl, rfl⟩ ?_ ?_ ?_)
        · exact (by repeat (first | exact Has.nil _ | refine Has.cons rfl ?_))
        · exact (by repeat (first | exact Has.nil _ | refine Has.cons rfl ?_))
        · exact SubH.refl _
    · replace hc42 := of_decide_eq_false hc42
      have hcm : x[i] ≠ 44 := fun h => hc42 (by rw [h]; rfl)
      refine wp_skip' ?_
      refine Then_normal ?_
      refine wp_seq' ?_
      refine wp_region' ?_
      refine ops_ro' rfl (ro_move rfl) rfl ?_
      refine ops_split rfl rfl rfl (fun hg60 => ?_) (fun hg60 => ?_)
      · skip
        subst hg60
        refine ops_ro' rfl (ro_move rfl) rfl ?_
        refine ops_ro' rfl (ro_move rfl) rfl ?_
        refine ops_ro' rfl (ro_indexS Tryd.underlying9 rfl rfl rfl (by omega)) rfl ?_
        refine ops_ro' rfl (ro_geq rfl rfl rfl) rfl ?_
        refine ops_ro' rfl (ro_pick rfl rfl) rfl ?_
        refine ops_split rfl rfl rfl (fun hg66 => ?_) (fun hg66 => ?_)
        · replace hg66 := of_decide_eq_true hg66
          refine ops_ro' rfl (ro_move rfl) rfl ?_
          refine ops_ro' rfl (ro_move rfl) rfl ?_
          refine ops_ro' rfl (ro_indexS Tryd.underlying9 rfl rfl rfl (by omega)) rfl ?_
          refine ops_ro' rfl (ro_leq rfl rfl rfl) rfl ?_
          refine ops_ro' rfl (ro_pick rfl rfl) rfl ?_
          refine ops_ro' rfl (ro_assign rfl) rfl ?_
          refine ops_nil ?_
          refine Then_normal ?_
          refine wp_region' ?_
          refine ops_ro' rfl (ro_move rfl) rfl ?_
          refine ops_ro' rfl (ro_add rfl rfl (wrap_inc (by omega))) rfl ?_
          refine ops_ro' rfl (ro_assign rfl) rfl ?_
          refine ops_nil ?_
          refine InBlock_normal ?_
          refine Then_normal ?_
          refine wp_region' ?_
          refine ops_ro' rfl (ro_move rfl) rfl ?_
          refine ops_ro' rfl (ro_add rfl rfl (wrap_inc (by omega))) rfl ?_
          refine ops_ro' rfl (ro_assign rfl) rfl ?_
          refine ops_nil ?_
          refine Then_normal ?_
          refine back (m - 1) (by omega) (kept ⟨decide (((x[i].toNat : Nat) : Int) ≤ 126), z + 1, i + 1, ⟨by omega, hF.go hi hcm (by simp <;> omega)⟩, rfl, rfl⟩ ?_ ?_ ?_)
          · exact (by repeat (first | exact Has.nil _ | refine Has.cons rfl ?_))
          · exact (by repeat (first | exact Has.nil _ | refine Has.cons rfl ?_))
          · exact SubH.refl _
        · replace hg66 := of_decide_eq_false hg66
          refine ops_skip' rfl rfl ?_
          refine ops_skip' rfl rfl ?_
          refine ops_skip' rfl rfl ?_
          refine ops_skip' rfl rfl ?_
          refine ops_ro' rfl (ro_pick rfl rfl) rfl ?_
          refine ops_ro' rfl (ro_assign rfl) rfl ?_
          refine ops_nil ?_
          refine Then_normal ?_
          refine wp_region' ?_
          refine ops_ro' rfl (ro_move rfl) rfl ?_
          refine ops_ro' rfl (ro_add rfl rfl (wrap_inc (by omega))) rfl ?_
          refine ops_ro' rfl (ro_assign rfl) rfl ?_
          refine ops_nil ?_
          refine InBlock_normal ?_
          refine Then_normal ?_
          refine wp_region' ?_
          refine ops_ro' rfl (ro_move rfl) rfl ?_
          refine ops_ro' rfl (ro_add rfl rfl (wrap_inc (by omega))) rfl ?_
          refine ops_ro' rfl (ro_assign rfl) rfl ?_
          refine ops_nil ?_
          refine Then_normal ?_
          refine back (m - 1) (by omega) (kept ⟨false, z + 1, i + 1, ⟨by omega, hF.go hi hcm (by simp <;> omega)⟩, rfl, rfl⟩ ?_ ?_ ?_)
          · exact (by repeat (first | exact Has.nil _ | refine Has.cons rfl ?_))
          · exact (by repeat (first | exact Has.nil _ | refine Has.cons rfl ?_))
          · exact SubH.refl _
      · skip
        subst hg60
        refine ops_skip' rfl rfl ?_
        refine ops_skip' rfl rfl ?_
        refine ops_skip' rfl rfl ?_
        refine ops_skip' rfl rfl ?_
        refine ops_ro' rfl (ro_pick rfl rfl) rfl ?_
        refine ops_ro' rfl (ro_move (v := .bool false) rfl) rfl ?_
        refine ops_skip' rfl rfl ?_
        refine ops_skip' rfl rfl ?_
        refine ops_skip' rfl rfl ?_
        refine ops_skip' rfl rfl ?_
        refine ops_ro' rfl (ro_pick rfl rfl) rfl ?_
        refine ops_ro' rfl (ro_assign rfl) rfl ?_
        refine ops_nil ?_
        refine Then_normal ?_
        refine wp_region' ?_
        refine ops_ro' rfl (ro_move rfl) rfl ?_
        refine ops_ro' rfl (ro_add rfl rfl (wrap_inc (by omega))) rfl ?_
        refine ops_ro' rfl (ro_assign rfl) rfl ?_
        refine ops_nil ?_
        refine InBlock_normal ?_
        refine Then_normal ?_
        refine wp_region' ?_
        refine ops_ro' rfl (ro_move rfl) rfl ?_
        refine ops_ro' rfl (ro_add rfl rfl (wrap_inc (by omega))) rfl ?_
        refine ops_ro' rfl (ro_assign rfl) rfl ?_
        refine ops_nil ?_
        refine Then_normal ?_
        refine back (m - 1) (by omega) (kept ⟨false, z + 1, i + 1, ⟨by omega, hF.go hi hcm (by simp <;> omega)⟩, rfl, rfl⟩ ?_ ?_ ?_)
        · exact (by repeat (first | exact Has.nil _ | refine Has.cons rfl ?_))
        · exact (by repeat (first | exact Has.nil _ | refine Has.cons rfl ?_))
        · exact SubH.refl _
  · replace hc36 := of_decide_eq_false hc36
    obtain rfl : i = x.length := by omega
    have hsz := hF.size_le
    refine wp_exit' ?_
    refine Then_exit ?_
    refine Then_exit ?_
    refine InBlock_here ?_
    refine Then_normal ?_
    refine wp_seq' ?_
    refine wp_region' ?_
    refine ops_ro' rfl (ro_move rfl) rfl ?_
    refine ops_split rfl rfl rfl (fun hg75 => ?_) (fun hg75 => ?_)
    · skip
      subst hg75
      refine ops_ro' rfl (ro_move rfl) rfl ?_
      refine ops_ro' rfl (ro_lenS (t' := 0) Tryd.underlying9 rfl) rfl ?_
      refine ops_ro' rfl (ro_eql rfl rfl rfl) rfl ?_
      refine ops_split rfl rfl rfl (fun hg79 => ?_) (fun hg79 => ?_)
      · replace hg79 := of_decide_eq_true hg79
        refine ops_skip' rfl rfl ?_
        refine ops_skip' rfl rfl ?_
        refine ops_skip' rfl rfl ?_
        refine ops_skip' rfl rfl ?_
        refine ops_skip' rfl rfl ?_
        refine ops_skip' rfl rfl ?_
        refine ops_ro' rfl (ro_pick rfl rfl) rfl ?_
        refine ops_ro' rfl (ro_pick rfl rfl) rfl ?_
        refine ops_ro' rfl (ro_assign rfl) rfl ?_
        refine ops_nil ?_
        refine Then_normal ?_
        refine wp_seq' ?_
        refine wp_seq' ?_
        refine wp_region' ?_
        refine ops_ro' rfl (ro_move rfl) rfl ?_
        refine ops_ro' rfl (ro_not rfl rfl) rfl ?_
        refine ops_nil ?_
        refine Then_normal ?_
        refine wp_condF rfl ?_
        refine wp_skip' ?_
        refine Then_normal ?_
        refine wp_seq' ?_
        have hyes := hF.done.1 ⟨rfl, by omega⟩
        obtain ⟨hfin, hL⟩ := hyn hyes
        have hjs := fun i => jn_le L i
        rw [hfin]
        refine wp_region' ?_
        refine ops_ro' rfl (ro_assign rfl) rfl ?_
        refine ops_nil ?_
        refine Then_normal ?_
        refine wp_seq' ?_
        refine wp_seq' ?_
        refine wp_region' ?_
        refine ops_ro' rfl (ro_assign rfl) rfl ?_
        refine ops_nil ?_
        refine Then_normal ?_
        refine wp_block' ?_
        refine wp_loopK 26 (fun m Δ LL => ∃ (i : Nat), (i + m = L.length) ∧ Δ = [(11, .string (str (joinc 44 (L.take i)))), (12, .int .i64 (i : Nat))] ∧ LL = [row 9 1 (.slice pl L.length cl) L.length (txs L), V]) (m := L.length) (Has.cons (k := 0) rfl (Has.cons (k := 5) rfl (Has.cons (k := 6) rfl (Has.nil _)))) (kept ⟨0, by omega, rfl, rfl⟩ (by repeat (first | exact Has.nil _ | refine Has.cons rfl ?_)) (by repeat (first | exact Has.nil _ | refine Has.cons rfl ?_)) (by repeat (first | exact SubH.nil _ | refine SubH.cons 0 rfl ?_ | refine SubH.cons 1 rfl ?_ | refine SubH.cons 2 rfl ?_ | refine SubH.cons 3 rfl ?_ | refine SubH.cons 4 rfl ?_ | refine SubH.cons 5 rfl ?_ | refine SubH.cons 6 rfl ?_ | refine SubH.cons 7 rfl ?_ | refine SubH.cons 8 rfl ?_ | refine SubH.cons 9 rfl ?_ | refine SubH.cons 10 rfl ?_ | refine SubH.cons 11 rfl ?_ | refine SubH.cons 12 rfl ?_ | refine SubH.cons 13 rfl ?_ | refine SubH.rown ?_))) ?_
        rintro m Δ LL ⟨i, hm, rfl, rfl⟩
        simp only [List.cons_append, List.nil_append]
        refine wp_seq' ?_
        refine wp_seq' ?_
        refine wp_region' ?_
        refine ops_ro' rfl (ro_move rfl) rfl ?_
        refine ops_ro' rfl (ro_move rfl) rfl ?_
        refine ops_ro' rfl (ro_sliceLen Tryd.underlying30 rfl) rfl ?_
        refine ops_ro' rfl (ro_lss rfl rfl rfl) rfl ?_
        refine ops_nil ?_
        refine Then_normal ?_
        refine wp_cond' rfl (fun hc107 => ?_) (fun hc107 => ?_)
        · replace hc107 := of_decide_eq_true hc107
          have hi : i < L.length := by omega
          have hj1 := hjs i
          have hj2 := hjs (i + 1)
          rw [hL] at hj1 hj2
          have hxl := jn_mem hi
          rw [hL] at hxl
          refine wp_know (fun w F s => row_ptr' 0 rfl s (by omega)) ?_
          rintro ⟨bl, rfl⟩
          refine wp_skip' ?_
          refine Then_normal ?_
          refine wp_seq' ?_
          refine wp_block' ?_
          refine wp_cutK 1030 (fun Δ LL => ∃ (y : List UInt8), (y ++ L[i] = joinc 44 (L.take (i + 1)) ∧ y.length ≤ 301) ∧ Δ = [(11, .string (str y))] ∧ LL = [row 9 1 (.slice (some ⟨bl, 0, none⟩) L.length cl) L.length (txs L), V]) (Has.cons (k := 0) rfl (Has.cons (k := 5) rfl (Has.cons (k := 6) rfl (Has.cons (k := 12) rfl (Has.nil _))))) ?_ ?_
          · refine wp_seq' ?_
            refine wp_region' ?_
            refine ops_ro' rfl (ro_move rfl) rfl ?_
            refine ops_ro' rfl (ro_gtr rfl rfl rfl) rfl ?_
            refine ops_nil ?_
            refine Then_normal ?_
            refine wp_cond' rfl (fun hc111 => ?_) (fun hc111 => ?_)
            · replace hc111 := of_decide_eq_true hc111
              refine wp_region' ?_
              refine ops_ro' rfl (ro_move rfl) rfl ?_
              refine ops_ro' rfl (ro_addS rfl rfl (by first | omega | (simp only [List.length_append, List.length_cons, List.length_nil] at *; omega))) rfl ?_
              refine ops_ro' rfl (ro_assign rfl) rfl ?_
              refine ops_nil ?_
              refine Then_normal ?_
              refine over_cut (kept ⟨joinc 44 (L.take i) ++ [44], ⟨(jnc_succ hi (by omega)).symm, by simp only [List.length_append, List.length_cons, List.length_nil]; omega⟩, rfl, rfl⟩ ?_ ?_ ?_)
              · exact (by repeat (first | exact Has.nil _ | refine Has.cons rfl ?_))
              · exact (by repeat (first | exact Has.nil _ | refine Has.cons rfl ?_))
              · exact SubH.refl _
            · replace hc111 := of_decide_eq_false hc111
              refine wp_skip' ?_
              refine Then_normal ?_
              refine over_cut (kept ⟨joinc 44 (L.take i), ⟨(jnc_zero hi (by omega)).symm, by omega⟩, rfl, rfl⟩ ?_ ?_ ?_)
              · exact (by repeat (first | exact Has.nil _ | refine Has.cons rfl ?_))
              · exact (by repeat (first | exact Has.nil _ | refine Has.cons rfl ?_))
              · exact SubH.refl _
          · rintro Δ LL ⟨y, ⟨hs, hsl⟩, rfl, rfl⟩
            simp only [List.cons_append, List.nil_append]
            refine wp_region' ?_
            refine ops_ro' rfl (ro_move rfl) rfl ?_
            refine ops_ro' rfl (ro_move rfl) rfl ?_
            refine ops_ro' rfl (ro_move rfl) rfl ?_
            refine ops_ro' rfl (ro_indexSlice sl30 rfl rfl rfl (by omega)) rfl ?_
            refine ops_ro' rfl (ro_load sc9 rfl (Rd.pick 0 rfl (Rd.elem (j := 0) (RdN.row) Tx.len (List.getElem?_eq_getElem hi) rfl))) rfl ?_
            refine ops_ro' rfl (ro_addS rfl rfl (by first | omega | (simp only [List.length_append, List.length_cons, List.length_nil] at *; omega))) rfl ?_
            rw [hs]
            refine ops_ro' rfl (ro_assign rfl) rfl ?_
            refine ops_nil ?_
            refine InBlock_normal ?_
            refine Then_normal ?_
            refine wp_region' ?_
            refine ops_ro' rfl (ro_move rfl) rfl ?_
            refine ops_ro' rfl (ro_add rfl rfl (wrap_inc (by omega))) rfl ?_
            refine ops_ro' rfl (ro_assign rfl) rfl ?_
            refine ops_nil ?_
            refine Then_normal ?_
            refine back (m - 1) (by omega) (kept ⟨i + 1, by omega, rfl, rfl⟩ ?_ ?_ ?_)
            · exact (by repeat (first | exact Has.nil _ | refine Has.cons rfl ?_))
            · exact (by repeat (first | exact Has.nil _ | refine Has.cons rfl ?_))
            · exact SubH.refl _
        · replace hc107 := of_decide_eq_false hc107
          rw [show L.take i = L from List.take_of_length_le (by omega), hL]
          refine wp_exit' ?_
          refine Then_exit ?_
          refine Then_exit ?_
          refine InBlock_here ?_
          refine Then_normal ?_
          refine wp_seq' ?_
          refine wp_region' ?_
          refine ops_ro' rfl (ro_move rfl) rfl ?_
          refine ops_ro' rfl (ro_eql rfl rfl (decide_eq_true (by omega))) rfl ?_
          refine ops_ro' rfl (ro_move (v := .bool true) rfl) rfl ?_
          refine ops_ro' rfl (ro_move rfl) rfl ?_
          refine ops_ro' rfl (ro_move rfl) rfl ?_
          refine ops_ro' rfl (ro_eqlS rfl rfl (decide_eq_true rfl)) rfl ?_
          refine ops_ro' rfl (ro_pick rfl rfl) rfl ?_
          refine ops_ro' rfl (ro_move (v := .bool true) rfl) rfl ?_
          refine ops_eff' rfl (eff_call Tryd.call15 rfl rfl (by repeat (first | exact Split.nil _ | apply Split.cons 0 rfl | apply Split.cons 1 rfl | apply Split.cons 2 rfl | apply Split.cons 3 rfl | apply Split.cons 4 rfl | apply Split.cons 5 rfl | apply Split.cons 6 rfl | apply Split.cons 7 rfl | apply Split.cons 8 rfl | apply Split.cons 9 rfl | apply Split.cons 10 rfl | apply Split.cons 11 rfl)) (known1_spec)) rfl ?_
          rintro _ H' ⟨_, ⟨rfl, rfl⟩, hH⟩
          simp only [List.cons_append, List.nil_append, List.eraseIdx_cons_zero, List.eraseIdx_cons_succ, List.set_cons_zero, List.set_cons_succ] at hH
          subst hH
          refine ops_ro' rfl (ro_pick rfl rfl) rfl ?_
          refine ops_ro' rfl (ro_assign rfl) rfl ?_
          refine ops_nil ?_
          refine Then_normal ?_
          refine wp_ret' ?_
          refine' doneS_ret (res1 rfl rfl) ?_ ?_
          rotate_left 1
          exact ⟨rfl, rfl⟩
          exact (SubH.cons 1 rfl (SubH.nil _))
      · replace hg79 := of_decide_eq_false hg79
        refine ops_ro' rfl (ro_move rfl) rfl ?_
        refine ops_ro' rfl (ro_gtr rfl rfl rfl) rfl ?_
        refine ops_split rfl rfl rfl (fun hg82 => ?_) (fun hg82 => ?_)
        · replace hg82 := of_decide_eq_true hg82
          refine ops_ro' rfl (ro_move rfl) rfl ?_
          refine ops_ro' rfl (ro_leq rfl rfl rfl) rfl ?_
          refine ops_ro' rfl (ro_pick rfl rfl) rfl ?_
          refine ops_ro' rfl (ro_pick rfl rfl) rfl ?_
          refine ops_ro' rfl (ro_pick rfl rfl) rfl ?_
          refine ops_ro' rfl (ro_assign rfl) rfl ?_
          refine ops_nil ?_
          refine Then_normal ?_
          refine wp_seq' ?_
          refine wp_seq' ?_
          refine wp_region' ?_
          refine ops_ro' rfl (ro_move rfl) rfl ?_
          refine ops_ro' rfl (ro_not rfl rfl) rfl ?_
          refine ops_nil ?_
          refine Then_normal ?_
          refine wp_cond' rfl (fun hc89 => ?_) (fun hc89 => ?_)
          · simp only [Bool.and_eq_true, decide_eq_true_eq, Bool.not_eq_true', decide_eq_false_iff_not, bne_iff_ne, ne_eq] at hc89
            refine wp_seq' ?_
            have hnot : ¬ (x = [] ∨ (parts 44 x).all nmOk = true) := fun hh => by
              obtain ⟨h3, h4⟩ := hF.done.2 hh
              first | (cases h3; done) | omega
            obtain ⟨hfin, hL⟩ := hnn hnot
            subst hL
            rw [hfin]
            refine wp_region' ?_
            refine ops_ro' rfl (ro_move rfl) rfl ?_
            refine ops_ro' rfl (ro_eql rfl rfl (decide_eq_true (by omega))) rfl ?_
            refine ops_ro' rfl (ro_move (v := .bool true) rfl) rfl ?_
            refine ops_ro' rfl (ro_move rfl) rfl ?_
            refine ops_ro' rfl (ro_eql rfl rfl (decide_eq_true (by omega))) rfl ?_
            refine ops_ro' rfl (ro_pick rfl rfl) rfl ?_
            refine ops_ro' rfl (ro_move (v := .bool true) rfl) rfl ?_
            refine ops_ro' rfl (ro_move rfl) rfl ?_
            refine ops_ro' rfl (ro_sliceLen Tryd.underlying30 rfl) rfl ?_
            refine ops_ro' rfl (ro_eql rfl rfl rfl) rfl ?_
            refine ops_ro' rfl (ro_pick rfl rfl) rfl ?_
            refine ops_ro' rfl (ro_move (v := .bool true) rfl) rfl ?_
            refine ops_eff' rfl (eff_call Tryd.call15 rfl rfl (by repeat (first | exact Split.nil _ | apply Split.cons 0 rfl | apply Split.cons 1 rfl | apply Split.cons 2 rfl | apply Split.cons 3 rfl | apply Split.cons 4 rfl | apply Split.cons 5 rfl | apply Split.cons 6 rfl | apply Split.cons 7 rfl | apply Split.cons 8 rfl | apply Split.cons 9 rfl | apply Split.cons 10 rfl | apply Split.cons 11 rfl)) (known1_spec)) rfl ?_
            rintro _ H' ⟨_, ⟨rfl, rfl⟩, hH⟩
            simp only [List.cons_append, List.nil_append, List.eraseIdx_cons_zero, List.eraseIdx_cons_succ, List.set_cons_zero, List.set_cons_succ] at hH
            subst hH
            refine ops_ro' rfl (ro_pick rfl rfl) rfl ?_
            refine ops_ro' rfl (ro_assign rfl) rfl ?_
            refine ops_nil ?_
            refine Then_normal ?_
            refine wp_ret' ?_
            refine Then_ret ?_
            refine' doneS_ret (res1 rfl rfl) ?_ ?_
            rotate_left 1
            exact ⟨rfl, rfl⟩
            exact (SubH.cons 1 rfl (SubH.nil _))
          · simp only [Bool.and_eq_false_iff, decide_eq_false_iff_not, Bool.not_eq_false', decide_eq_true_eq] at hc89
            refine wp_skip' ?_
            refine Then_normal ?_
            refine wp_seq' ?_
            have hyes := hF.done.1 ⟨rfl, by omega⟩
            obtain ⟨hfin, hL⟩ := hyn hyes
            have hjs := fun i => jn_le L i
            rw [hfin]
            refine wp_region' ?_
            refine ops_ro' rfl (ro_assign rfl) rfl ?_
            refine ops_nil ?_
            refine Then_normal ?_
            refine wp_seq' ?_
            refine wp_seq' ?_
            refine wp_region' ?_
            refine ops_ro' rfl (ro_assign rfl) rfl ?_
            refine ops_nil ?_
            refine Then_normal ?_
            refine wp_block' ?_
            refine wp_loopK 26 (fun m Δ LL => ∃ (i : Nat), (i + m = L.length) ∧ Δ = [(11, .string (str (joinc 44 (L.take i)))), (12, .int .i64 (i : Nat))] ∧ LL = [row 9 1 (.slice pl L.length cl) L.length (txs L), V]) (m := L.length) (Has.cons (k := 0) rfl (Has.cons (k := 5) rfl (Has.cons (k := 6) rfl (Has.nil _)))) (kept ⟨0, by omega, rfl, rfl⟩ (by repeat (first | exact Has.nil _ | refine Has.cons rfl ?_)) (by repeat (first | exact Has.nil _ | refine Has.cons rfl ?_)) (by repeat (first | exact SubH.nil _ | refine SubH.cons 0 rfl ?_ | refine SubH.cons 1 rfl ?_ | refine SubH.cons 2 rfl ?_ | refine SubH.cons 3 rfl ?_ | refine SubH.cons 4 rfl ?_ | refine SubH.cons 5 rfl ?_ | refine SubH.cons 6 rfl ?_ | refine SubH.cons 7 rfl ?_ | refine SubH.cons 8 rfl ?_ | refine SubH.cons 9 rfl ?_ | refine SubH.cons 10 rfl ?_ | refine SubH.cons 11 rfl ?_ | refine SubH.cons 12 rfl ?_ | refine SubH.cons 13 rfl ?_ | refine SubH.rown ?_))) ?_
            rintro m Δ LL ⟨i, hm, rfl, rfl⟩
            simp only [List.cons_append, List.nil_append]
            refine wp_seq' ?_
            refine wp_seq' ?_
            refine wp_region' ?_
            refine ops_ro' rfl (ro_move rfl) rfl ?_
            refine ops_ro' rfl (ro_move rfl) rfl ?_
            refine ops_ro' rfl (ro_sliceLen Tryd.underlying30 rfl) rfl ?_
            refine ops_ro' rfl (ro_lss rfl rfl rfl) rfl ?_
            refine ops_nil ?_
            refine Then_normal ?_
            refine wp_cond' rfl (fun hc107 => ?_) (fun hc107 => ?_)
            · replace hc107 := of_decide_eq_true hc107
              have hi : i < L.length := by omega
              have hj1 := hjs i
              have hj2 := hjs (i + 1)
              rw [hL] at hj1 hj2
              have hxl := jn_mem hi
              rw [hL] at hxl
              refine wp_know (fun w F s => row_ptr' 0 rfl s (by omega)) ?_
              rintro ⟨bl, rfl⟩
              refine wp_skip' ?_
              refine Then_normal ?_
              refine wp_seq' ?_
              refine wp_block' ?_
              refine wp_cutK 1030 (fun Δ LL => ∃ (y : List UInt8), (y ++ L[i] = joinc 44 (L.take (i + 1)) ∧ y.length ≤ 301) ∧ Δ = [(11, .string (str y))] ∧ LL = [row 9 1 (.slice (some ⟨bl, 0, none⟩) L.length cl) L.length (txs L), V]) (Has.cons (k := 0) rfl (Has.cons (k := 5) rfl (Has.cons (k := 6) rfl (Has.cons (k := 12) rfl (Has.nil _))))) ?_ ?_
              · refine wp_seq' ?_
                refine wp_region' ?_
                refine ops_ro' rfl (ro_move rfl) rfl ?_
                refine ops_ro' rfl (ro_gtr rfl rfl rfl) rfl ?_
                refine ops_nil ?_
                refine Then_normal ?_
                refine wp_cond' rfl (fun hc111 => ?_) (fun hc111 => ?_)
                · replace hc111 := of_decide_eq_true hc111
                  refine wp_region' ?_
                  refine ops_ro' rfl (ro_move rfl) rfl ?_
                  refine ops_ro' rfl (ro_addS rfl rfl (by first | omega | (simp only [List.length_append, List.length_cons, List.length_nil] at *; omega))) rfl ?_
                  refine ops_ro' rfl (ro_assign rfl) rfl ?_
                  refine ops_nil ?_
                  refine Then_normal ?_
                  refine over_cut (kept ⟨joinc 44 (L.take i) ++ [44], ⟨(jnc_succ hi (by omega)).symm, by simp only [List.length_append, List.length_cons, List.length_nil]; omega⟩, rfl, rfl⟩ ?_ ?_ ?_)
                  · exact (by repeat (first | exact Has.nil _ | refine Has.cons rfl ?_))
                  · exact (by repeat (first | exact Has.nil _ | refine Has.cons rfl ?_))
                  · exact SubH.refl _
                · replace hc111 := of_decide_eq_false hc111
                  refine wp_skip' ?_
                  refine Then_normal ?_
                  refine over_cut (kept ⟨joinc 44 (L.take i), ⟨(jnc_zero hi (by omega)).symm, by omega⟩, rfl, rfl⟩ ?_ ?_ ?_)
                  · exact (by repeat (first | exact Has.nil _ | refine Has.cons rfl ?_))
                  · exact (by repeat (first | exact Has.nil _ | refine Has.cons rfl ?_))
                  · exact SubH.refl _
              · rintro Δ LL ⟨y, ⟨hs, hsl⟩, rfl, rfl⟩
                simp only [List.cons_append, List.nil_append]
                refine wp_region' ?_
                refine ops_ro' rfl (ro_move rfl) rfl ?_
                refine ops_ro' rfl (ro_move rfl) rfl ?_
                refine ops_ro' rfl (ro_move rfl) rfl ?_
                refine ops_ro' rfl (ro_indexSlice sl30 rfl rfl rfl (by omega)) rfl ?_
                refine ops_ro' rfl (ro_load sc9 rfl (Rd.pick 0 rfl (Rd.elem (j := 0) (RdN.row) Tx.len (List.getElem?_eq_getElem hi) rfl))) rfl ?_
                refine ops_ro' rfl (ro_addS rfl rfl (by first | omega | (simp only [List.length_append, List.length_cons, List.length_nil] at *; omega))) rfl ?_
                rw [hs]
                refine ops_ro' rfl (ro_assign rfl) rfl ?_
                refine ops_nil ?_
                refine InBlock_normal ?_
                refine Then_normal ?_
                refine wp_region' ?_
                refine ops_ro' rfl (ro_move rfl) rfl ?_
                refine ops_ro' rfl (ro_add rfl rfl (wrap_inc (by omega))) rfl ?_
                refine ops_ro' rfl (ro_assign rfl) rfl ?_
                refine ops_nil ?_
                refine Then_normal ?_
                refine back (m - 1) (by omega) (kept ⟨i + 1, by omega, rfl, rfl⟩ ?_ ?_ ?_)
                · exact (by repeat (first | exact Has.nil _ | refine Has.cons rfl ?_))
                · exact (by repeat (first | exact Has.nil _ | refine Has.cons rfl ?_))
                · exact SubH.refl _
            · replace hc107 := of_decide_eq_false hc107
              rw [show L.take i = L from List.take_of_length_le (by omega), hL]
              refine wp_exit' ?_
              refine Then_exit ?_
              refine Then_exit ?_
              refine InBlock_here ?_
              refine Then_normal ?_
              refine wp_seq' ?_
              refine wp_region' ?_
              refine ops_ro' rfl (ro_move rfl) rfl ?_
              refine ops_ro' rfl (ro_eql rfl rfl (decide_eq_true (by omega))) rfl ?_
              refine ops_ro' rfl (ro_move (v := .bool true) rfl) rfl ?_
              refine ops_ro' rfl (ro_move rfl) rfl ?_
              refine ops_ro' rfl (ro_move rfl) rfl ?_
              refine ops_ro' rfl (ro_eqlS rfl rfl (decide_eq_true rfl)) rfl ?_
              refine ops_ro' rfl (ro_pick rfl rfl) rfl ?_
              refine ops_ro' rfl (ro_move (v := .bool true) rfl) rfl ?_
              refine ops_eff' rfl (eff_call Tryd.call15 rfl rfl (by repeat (first | exact Split.nil _ | apply Split.cons 0 rfl | apply Split.cons 1 rfl | apply Split.cons 2 rfl | apply Split.cons 3 rfl | apply Split.cons 4 rfl | apply Split.cons 5 rfl | apply Split.cons 6 rfl | apply Split.cons 7 rfl | apply Split.cons 8 rfl | apply Split.cons 9 rfl | apply Split.cons 10 rfl | apply Split.cons 11 rfl)) (known1_spec)) rfl ?_
              rintro _ H' ⟨_, ⟨rfl, rfl⟩, hH⟩
              simp only [List.cons_append, List.nil_append, List.eraseIdx_cons_zero, List.eraseIdx_cons_succ, List.set_cons_zero, List.set_cons_succ] at hH
              subst hH
              refine ops_ro' rfl (ro_pick rfl rfl) rfl ?_
              refine ops_ro' rfl (ro_assign rfl) rfl ?_
              refine ops_nil ?_
              refine Then_normal ?_
              refine wp_ret' ?_
              refine' doneS_ret (res1 rfl rfl) ?_ ?_
              rotate_left 1
              exact ⟨rfl, rfl⟩
              exact (SubH.cons 1 rfl (SubH.nil _))
        · replace hg82 := of_decide_eq_false hg82
          refine ops_skip' rfl rfl ?_
          refine ops_skip' rfl rfl ?_
          refine ops_ro' rfl (ro_pick rfl rfl) rfl ?_
          refine ops_ro' rfl (ro_pick rfl rfl) rfl ?_
          refine ops_ro' rfl (ro_pick rfl rfl) rfl ?_
          refine ops_ro' rfl (ro_assign rfl) rfl ?_
          refine ops_nil ?_
          refine Then_normal ?_
          refine wp_seq' ?_
          refine wp_seq' ?_
          refine wp_region' ?_
          refine ops_ro' rfl (ro_move rfl) rfl ?_
          refine ops_ro' rfl (ro_not rfl rfl) rfl ?_
          refine ops_nil ?_
          refine Then_normal ?_
          refine wp_condT rfl ?_
          refine wp_seq' ?_
          have hnot : ¬ (x = [] ∨ (parts 44 x).all nmOk = true) := fun hh => by
            obtain ⟨h3, h4⟩ := hF.done.2 hh
            first | (cases h3; done) | omega
          obtain ⟨hfin, hL⟩ := hnn hnot
          subst hL
          rw [hfin]
          refine wp_region' ?_
          refine ops_ro' rfl (ro_move rfl) rfl ?_
          refine ops_ro' rfl (ro_eql rfl rfl (decide_eq_true (by omega))) rfl ?_
          refine ops_ro' rfl (ro_move (v := .bool true) rfl) rfl ?_
          refine ops_ro' rfl (ro_move rfl) rfl ?_
          refine ops_ro' rfl (ro_eql rfl rfl (decide_eq_true (by omega))) rfl ?_
          refine ops_ro' rfl (ro_pick rfl rfl) rfl ?_
          refine ops_ro' rfl (ro_move (v := .bool true) rfl) rfl ?_
          refine ops_ro' rfl (ro_move rfl) rfl ?_
          refine ops_ro' rfl (ro_sliceLen Tryd.underlying30 rfl) rfl ?_
          refine ops_ro' rfl (ro_eql rfl rfl rfl) rfl ?_
          refine ops_ro' rfl (ro_pick rfl rfl) rfl ?_
          refine ops_ro' rfl (ro_move (v := .bool true) rfl) rfl ?_
          refine ops_eff' rfl (eff_call Tryd.call15 rfl rfl (by repeat (first | exact Split.nil _ | apply Split.cons 0 rfl | apply Split.cons 1 rfl | apply Split.cons 2 rfl | apply Split.cons 3 rfl | apply Split.cons 4 rfl | apply Split.cons 5 rfl | apply Split.cons 6 rfl | apply Split.cons 7 rfl | apply Split.cons 8 rfl | apply Split.cons 9 rfl | apply Split.cons 10 rfl | apply Split.cons 11 rfl)) (known1_spec)) rfl ?_
          rintro _ H' ⟨_, ⟨rfl, rfl⟩, hH⟩
          simp only [List.cons_append, List.nil_append, List.eraseIdx_cons_zero, List.eraseIdx_cons_succ, List.set_cons_zero, List.set_cons_succ] at hH
          subst hH
          refine ops_ro' rfl (ro_pick rfl rfl) rfl ?_
          refine ops_ro' rfl (ro_assign rfl) rfl ?_
          refine ops_nil ?_
          refine Then_normal ?_
          refine wp_ret' ?_
          refine Then_ret ?_
          refine' doneS_ret (res1 rfl rfl) ?_ ?_
          rotate_left 1
          exact ⟨rfl, rfl⟩
          exact (SubH.cons 1 rfl (SubH.nil _))
    · skip
      subst hg75
      refine ops_skip' rfl rfl ?_
      refine ops_skip' rfl rfl ?_
      refine ops_skip' rfl rfl ?_
      refine ops_skip' rfl rfl ?_
      refine ops_skip' rfl rfl ?_
      refine ops_skip' rfl rfl ?_
      refine ops_skip' rfl rfl ?_
      refine ops_skip' rfl rfl ?_
      refine ops_skip' rfl rfl ?_
      refine ops_skip' rfl rfl ?_
      refine ops_skip' rfl rfl ?_
      refine ops_ro' rfl (ro_pick rfl rfl) rfl ?_
      refine ops_ro' rfl (ro_assign rfl) rfl ?_
      refine ops_nil ?_
      refine Then_normal ?_
      refine wp_seq' ?_
      refine wp_seq' ?_
      refine wp_region' ?_
      refine ops_ro' rfl (ro_move rfl) rfl ?_
      refine ops_ro' rfl (ro_not rfl rfl) rfl ?_
      refine ops_nil ?_
      refine Then_normal ?_
      refine wp_condT rfl ?_
      refine wp_seq' ?_
      have hnot : ¬ (x = [] ∨ (parts 44 x).all nmOk = true) := fun hh => by
        obtain ⟨h3, h4⟩ := hF.done.2 hh
        first | (cases h3; done) | omega
      obtain ⟨hfin, hL⟩ := hnn hnot
      subst hL
      rw [hfin]
      refine wp_region' ?_
      refine ops_ro' rfl (ro_move rfl) rfl ?_
      refine ops_ro' rfl (ro_eql rfl rfl (decide_eq_true (by omega))) rfl ?_
      refine ops_ro' rfl (ro_move (v := .bool true) rfl) rfl ?_
      refine ops_ro' rfl (ro_move rfl) rfl ?_
      refine ops_ro' rfl (ro_eql rfl rfl (decide_eq_true (by omega))) rfl ?_
      refine ops_ro' rfl (ro_pick rfl rfl) rfl ?_
      refine ops_ro' rfl (ro_move (v := .bool true) rfl) rfl ?_
      refine ops_ro' rfl (ro_move rfl) rfl ?_
      refine ops_ro' rfl (ro_sliceLen Tryd.underlying30 rfl) rfl ?_
      refine ops_ro' rfl (ro_eql rfl rfl rfl) rfl ?_
      refine ops_ro' rfl (ro_pick rfl rfl) rfl ?_
      refine ops_ro' rfl (ro_move (v := .bool true) rfl) rfl ?_
      refine ops_eff' rfl (eff_call Tryd.call15 rfl rfl (by repeat (first | exact Split.nil _ | apply Split.cons 0 rfl | apply Split.cons 1 rfl | apply Split.cons 2 rfl | apply Split.cons 3 rfl | apply Split.cons 4 rfl | apply Split.cons 5 rfl | apply Split.cons 6 rfl | apply Split.cons 7 rfl | apply Split.cons 8 rfl | apply Split.cons 9 rfl | apply Split.cons 10 rfl | apply Split.cons 11 rfl)) (known1_spec)) rfl ?_
      rintro _ H' ⟨_, ⟨rfl, rfl⟩, hH⟩
      simp only [List.cons_append, List.nil_append, List.eraseIdx_cons_zero, List.eraseIdx_cons_succ, List.set_cons_zero, List.set_cons_succ] at hH
      subst hH
      refine ops_ro' rfl (ro_pick rfl rfl) rfl ?_
      refine ops_ro' rfl (ro_assign rfl) rfl ?_
      refine ops_nil ?_
      refine Then_normal ?_
      refine wp_ret' ?_
      refine Then_ret ?_
      refine' doneS_ret (res1 rfl rfl) ?_ ?_
      rotate_left 1
      exact ⟨rfl, rfl⟩
      exact (SubH.cons 1 rfl (SubH.nil _))

end Go.Proofs.YtbiohhfibkolgaaDoor
