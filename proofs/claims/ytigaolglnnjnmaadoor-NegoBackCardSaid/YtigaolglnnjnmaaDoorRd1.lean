/-
  More of the reader of package wire.
-/
import Derived.Test.YtigaolglnnjnmaaDoorRText
import Derived.Test.YtigaolglnnjnmaaDoorTxt
import Derived.Test.YtigaolglnnjnmaaDoorWire2
import Derived.Test.YtigaolglnnjnmaaDoorParts
import Derived.Test.YtigaolglnnjnmaaDoorLib
namespace Go.Proofs.YtigaolglnnjnmaaDoor
open Go.Sx
set_option linter.unusedVariables false
set_option linter.unusedSimpArgs false
set_option maxRecDepth 100000
set_option maxHeartbeats 4000000

theorem text_at (pw : Nat) (p : Option Addr) (c : Nat) (l s : List UInt8) (hs : l.length + 4 + s.length ≤ 140737488355328) :
    Tri Tryd.prog 69 [.pointer (some ⟨pw, 0, none⟩), .string (str s)] (wr pw p c l) (fun r H' => ∃ p' c', r = .tuple #[] ∧ H' = wr pw p' c' (l ++ be s.length 4 ++ s)) := by
  have h := text_run pw p c l (str s) (by rw [str_size]; exact hs)
  rw [str_size] at h; exact h
theorem R.text_len (r : R) (n : Int) : (r.text n).2.length < 4294967296 := by
  have h1 := get_lt r 4
  have h2 := take_len (if (if 0 > n then 0 else n) < ((r.get 4).2 : Int) then (r.get 4).1.refuse 3 r.pos else (r.get 4).1) ((r.get 4).2 : Nat)
  have e : (r.text n).2.length ≤ ((((r.get 4).2 : Nat) : Int)).toNat := h2
  simp only [Nat.reducePow] at h1
  omega
theorem rByte_spec (pr : Nat) (p : Option Addr) (c : Nat) (r : R) (hg : r.Good) : Tri Tryd.prog 50 [.pointer (some ⟨pr, 0, none⟩)] (rd pr p c r) (fun v H' => v = .int .i64 (r.get 1).2 ∧ H' = rd pr p c (r.get 1).1) := by
  refine tri_of_wpS Tryd.func50 rfl Tryd.ntmps50 (by simp) ?_
  refine wp_seq' ?_
  refine wp_region' ?_
  refine ops_ro' rfl (ro_assign rfl) rfl ?_
  refine ops_nil ?_
  refine Then_normal ?_
  refine wp_seq' ?_
  refine wp_region' ?_
  refine ops_ro' rfl (ro_move rfl) rfl ?_
  refine ops_eff' rfl (eff_call Tryd.call71 rfl rfl (by repeat (first | exact Split.nil _ | apply Split.cons 0 rfl | apply Split.cons 1 rfl | apply Split.cons 2 rfl | apply Split.cons 3 rfl | apply Split.cons 4 rfl | apply Split.cons 5 rfl | apply Split.cons 6 rfl | apply Split.cons 7 rfl | apply Split.cons 8 rfl | apply Split.cons 9 rfl | apply Split.cons 10 rfl | apply Split.cons 11 rfl)) (get_spec pr p c r 1 (by omega) hg.len hg.pos)) rfl ?_
  rintro _ H' ⟨_, ⟨rfl, rfl⟩, hH⟩
  simp only [List.cons_append, List.nil_append, List.eraseIdx_cons_zero, List.eraseIdx_cons_succ, List.set_cons_zero, List.set_cons_succ] at hH
  subst hH
  have hlt := get_lt r 1
  simp only [Nat.reducePow] at hlt
  refine ops_ro' rfl (ro_conv Tryd.underlying98 Tryd.underlying3 rfl (wrap_natN (by omega))) rfl ?_
  refine ops_ro' rfl (ro_assign rfl) rfl ?_
  refine ops_nil ?_
  refine Then_normal ?_
  refine wp_ret' ?_
  refine' doneS_ret (res1 rfl rfl) ?_ ?_
  rotate_left 1
  exact ⟨rfl, rfl⟩
  exact SubH.refl _
theorem rBool_spec (pr : Nat) (p : Option Addr) (c : Nat) (r : R) (hg : r.Good) : Tri Tryd.prog 53 [.pointer (some ⟨pr, 0, none⟩)] (rd pr p c r) (fun v H' => v = .bool (decide (((r.get 1).2 : Int) ≠ 0)) ∧ H' = rd pr p c (r.get 1).1) := by
  refine tri_of_wpS Tryd.func53 rfl Tryd.ntmps53 (by simp) ?_
  refine wp_seq' ?_
  refine wp_region' ?_
  refine ops_ro' rfl (ro_assign rfl) rfl ?_
  refine ops_nil ?_
  refine Then_normal ?_
  refine wp_seq' ?_
  refine wp_region' ?_
  refine ops_ro' rfl (ro_move rfl) rfl ?_
  refine ops_eff' rfl (eff_call Tryd.call71 rfl rfl (by repeat (first | exact Split.nil _ | apply Split.cons 0 rfl | apply Split.cons 1 rfl | apply Split.cons 2 rfl | apply Split.cons 3 rfl | apply Split.cons 4 rfl | apply Split.cons 5 rfl | apply Split.cons 6 rfl | apply Split.cons 7 rfl | apply Split.cons 8 rfl | apply Split.cons 9 rfl | apply Split.cons 10 rfl | apply Split.cons 11 rfl)) (get_spec pr p c r 1 (by omega) hg.len hg.pos)) rfl ?_
  rintro _ H' ⟨_, ⟨rfl, rfl⟩, hH⟩
  simp only [List.cons_append, List.nil_append, List.eraseIdx_cons_zero, List.eraseIdx_cons_succ, List.set_cons_zero, List.set_cons_succ] at hH
  subst hH
  refine ops_ro' rfl (ro_neq rfl rfl rfl) rfl ?_
  refine ops_ro' rfl (ro_assign rfl) rfl ?_
  refine ops_nil ?_
  refine Then_normal ?_
  refine wp_ret' ?_
  refine' doneS_ret (res1 rfl rfl) ?_ ?_
  rotate_left 1
  exact ⟨rfl, rfl⟩
  exact SubH.refl _
theorem rRaw_spec (pr : Nat) (p : Option Addr) (c : Nat) (r : R) (hg : r.Good) (n : Int) : Tri Tryd.prog 51 [.pointer (some ⟨pr, 0, none⟩), .int .i64 n] (rd pr p c r) (fun v H' => ∃ A, Out v (r.take n).2 A ∧ H' = A :: rd pr p c (r.take n).1) := by
  refine tri_of_wpS Tryd.func51 rfl Tryd.ntmps51 (by simp) ?_
  refine wp_seq' ?_
  refine wp_region' ?_
  refine ops_ro' rfl (ro_assign rfl) rfl ?_
  refine ops_nil ?_
  refine Then_normal ?_
  refine wp_seq' ?_
  refine wp_region' ?_
  refine ops_ro' rfl (ro_move rfl) rfl ?_
  refine ops_ro' rfl (ro_move rfl) rfl ?_
  refine ops_eff' rfl (eff_call Tryd.call72 rfl rfl (by repeat (first | exact Split.nil _ | apply Split.cons 0 rfl | apply Split.cons 1 rfl | apply Split.cons 2 rfl | apply Split.cons 3 rfl | apply Split.cons 4 rfl | apply Split.cons 5 rfl | apply Split.cons 6 rfl | apply Split.cons 7 rfl | apply Split.cons 8 rfl | apply Split.cons 9 rfl | apply Split.cons 10 rfl | apply Split.cons 11 rfl)) (take_spec _ _ _ _ _ (R.Good.len (by repeat (first | assumption | (with_reducible first | apply R.good_get | apply R.good_text | apply R.good_take | apply R.good_fail | apply R.good_refuse) | (apply R.good_new; omega)))) (R.Good.pos (by repeat (first | assumption | (with_reducible first | apply R.good_get | apply R.good_text | apply R.good_take | apply R.good_fail | apply R.good_refuse) | (apply R.good_new; omega)))))) rfl ?_
  rintro _ H' ⟨_, ⟨A, ⟨p', c', rfl, hs, rfl⟩, rfl⟩, hH⟩
  simp only [List.cons_append, List.nil_append, List.eraseIdx_cons_zero, List.eraseIdx_cons_succ, List.set_cons_zero, List.set_cons_succ] at hH
  subst hH
  refine ops_ro' rfl (ro_assign rfl) rfl ?_
  refine ops_nil ?_
  refine Then_normal ?_
  refine wp_ret' ?_
  refine' doneS_ret (res1 rfl rfl) ?_ ?_
  rotate_left 1
  exact ⟨_, ⟨p', c', rfl, hs, rfl⟩, rfl⟩
  exact SubH.refl _
/-- a number that is written wrongly -/
def badN : List UInt8 → Bool
  | [] => false
  | [b] => decide (128 ≤ b.toNat) || decide (b.toNat = 0)
  | b :: d :: _ => decide (128 ≤ b.toNat) || (decide (b.toNat = 0) && decide (d.toNat < 128))
def R.mp (r : R) (most : Int) : R × List UInt8 := if (r.text most).1.why ≠ 0 ∨ (r.text most).2 = [] then ((r.text most).1, []) else if badN (r.text most).2 = true then ((r.text most).1.refuse 12 r.pos, []) else ((r.text most).1, bare (r.text most).2)
theorem R.mp_no {r q : R} {most : Int} {s : List UInt8} (e : r.text most = (q, s)) (h : q.why ≠ 0 ∨ s = []) : r.mp most = (q, []) := by unfold R.mp; rw [e]; simp only; rw [if_pos h]
theorem R.mp_bad {r q : R} {most : Int} {s : List UInt8} (e : r.text most = (q, s)) (h : q.why = 0) (h1 : s ≠ []) (hb : badN s = true) : r.mp most = (q.refuse 12 r.pos, []) := by unfold R.mp; rw [e]; simp only; rw [if_neg (by simp [h, h1]), if_pos hb]
theorem R.mp_good {r q : R} {most : Int} {s : List UInt8} (e : r.text most = (q, s)) (h : q.why = 0) (h1 : s ≠ []) (hb : badN s = false) : r.mp most = (q, bare s) := by unfold R.mp; rw [e]; simp only; rw [if_neg (by simp [h, h1]), if_neg (by simp [hb])]
theorem R.good_mp {r : R} (h : r.Good) (n : Int) : (r.mp n).1.Good := by
  unfold R.mp; split
  · exact R.good_text h n
  · split
    · exact R.good_refuse (R.good_text h n) _ _
    · exact R.good_text h n
theorem badN_cons (b : UInt8) (l : List UInt8) : badN (b :: l) = (decide (128 ≤ b.toNat) || (decide (b.toNat = 0) && (decide (l.length = 0) || decide ((l.headD 0).toNat < 128)))) := by
  cases l with
  | nil => simp [badN]
  | cons d t => simp [badN]
theorem bare_good0 {b : UInt8} {l : List UInt8} (hb : badN (b :: l) = false) (h : b.toNat = 0) : bare (b :: l) = l := by
  have h0 : b = 0 := UInt8.toNat_inj.1 h
  subst h0
  rw [badN_cons] at hb
  cases l with
  | nil => simp at hb
  | cons d t =>
    rw [bare_zero]
    refine bare_stop t fun e => ?_
    subst e; simp at hb
theorem bare_good1 {b : UInt8} {l : List UInt8} (h : ¬ b.toNat = 0) : bare (b :: l) = b :: l := bare_stop l fun e => h (by rw [e]; rfl)


/-- the library's number of the longest text that is sought at once can be read -/
def Ml (V : HProp) : Prop := ∀ w R, sat w (star V R) → ∃ m, w.cell? ⟨0, 0, none⟩ = some (.int .i64 m)
theorem Ml.pick {V : HProp} {H : List HProp} (i : Nat) (hi : H[i]? = some V) (h : Ml V) : Ml (St H) := fun w R s => by
  rw [St_pick hi, star_assoc] at s; exact h w _ s
theorem split_spec (V : HProp) (hM : Ml V) (s : List UInt8) (c : UInt8) (hs : s.length < 4294967281) :
    Tri Tryd.prog 34 [.string (str s), .string (str [c])] [V] (fun v H' => ∃ K, (∃ b, v = .slice (some ⟨b, 0, none⟩) (parts c s).length (parts c s).length ∧ K = [row 9 1 (.slice (some ⟨b, 0, none⟩) (parts c s).length (parts c s).length) (parts c s).length (txs (parts c s))]) ∧ H' = K ++ [V]) := fun w F hw => by
  have hw' : sat w (star V F) := by rwa [St_cons, St_nil, star_emp] at hw
  obtain ⟨m, hm⟩ := hM w F hw'
  refine (Tryd.strings_Split (str s) (str [c]) m w (by rw [str_size]; exact hs) hm (by rw [str_size]; exact Nat.le_refl _)).mono ?_
  rintro e w' ⟨rfl, rfl⟩
  rw [countB_parts, splitB_parts, ← txs_map]
  refine ⟨_, _, rfl, ⟨_, ⟨w.heap.size, rfl, rfl⟩, rfl⟩, ?_⟩
  simp only [List.cons_append, List.nil_append, St_cons, St_nil, star_emp, star_assoc]
  have hl := parts_length_le c s
  exact row_mk (cs := txs (parts c s)) (fr := (0, 0)) (Nat.le_refl _) (by simp only [maxLen]; omega) (by rw [flat_len Tx.len]) (by rw [← flat_len Tx.len]; exact List.take_length) (warm_zero _) (sat_alloc (w := w) rfl hw' rfl)


theorem names1_spec (s : List UInt8) (hs : s.length ≤ 9223372036854775806) : Tri Tryd.prog 74 [.string (str s)] [] (fun v H' => v = .bool (!nmOk s) ∧ H' = []) := by
  refine tri_of_wpS Tryd.func74 rfl Tryd.ntmps74 (by simp) ?_
  refine wp_seq' ?_
  refine wp_region' ?_
  refine ops_ro' rfl (ro_assign rfl) rfl ?_
  refine ops_nil ?_
  refine Then_normal ?_
  refine wp_seq' ?_
  refine wp_region' ?_
  refine ops_ro' rfl (ro_move rfl) rfl ?_
  refine ops_eff' rfl (eff_call Tryd.call44 rfl rfl (by repeat (first | exact Split.nil _ | apply Split.cons 0 rfl | apply Split.cons 1 rfl | apply Split.cons 2 rfl | apply Split.cons 3 rfl | apply Split.cons 4 rfl | apply Split.cons 5 rfl | apply Split.cons 6 rfl | apply Split.cons 7 rfl | apply Split.cons 8 rfl | apply Split.cons 9 rfl | apply Split.cons 10 rfl | apply Split.cons 11 rfl)) (wName_spec _ (by omega))) rfl ?_
  rintro _ H' ⟨_, ⟨rfl, rfl⟩, hH⟩
  simp only [List.cons_append, List.nil_append, List.eraseIdx_cons_zero, List.eraseIdx_cons_succ, List.set_cons_zero, List.set_cons_succ] at hH
  subst hH
  refine ops_ro' rfl (ro_not rfl rfl) rfl ?_
  refine ops_ro' rfl (ro_assign rfl) rfl ?_
  refine ops_nil ?_
  refine Then_normal ?_
  refine wp_ret' ?_
  refine' doneS_ret (res1 rfl rfl) ?_ ?_
  rotate_left 1
  exact ⟨rfl, rfl⟩
  exact SubH.refl _
theorem idx_no {l : List (List UInt8)} {i : Nat} (hi : i < l.length) (h : nmOk l[i] = false) : l.all nmOk = false := by
  cases hh : l.all nmOk with
  | false => rfl
  | true => have := List.all_eq_true.1 hh l[i] (List.getElem_mem hi); rw [this] at h; cases h
theorem idx_spec (V : HProp) (l : List (List UInt8)) (q : Option Addr) (cq : Nat) (hV : Vw V (.slice q l.length cq) l.length (txs l)) (hl : l.length ≤ 140737488355328) (hsm : ∀ x ∈ l, x.length ≤ 140737488355328) :
    Tri Tryd.prog 68 [.slice q l.length cq, .func (.func 74) #[] #[]] [V] (fun v H' => ∃ K, (∃ k : Int, v = .int .i64 k ∧ ((0 ≤ k ∧ l.all nmOk = false) ∨ (k < 0 ∧ l.all nmOk = true)) ∧ K = []) ∧ H' = K ++ [V]) := by
  refine tri_of_wpS Tryd.func68 rfl Tryd.ntmps68 (by simp) ?_
  refine wp_seq' ?_
  refine wp_region' ?_
  refine ops_ro' rfl (ro_assign rfl) rfl ?_
  refine ops_nil ?_
  refine Then_normal ?_
  refine wp_seq' ?_
  refine wp_seq' ?_
  refine wp_region' ?_
  refine ops_ro' rfl (ro_move rfl) rfl ?_
  refine ops_ro' rfl (ro_sliceLen Tryd.underlying24 rfl) rfl ?_
  refine ops_ro' rfl (ro_move rfl) rfl ?_
  refine ops_nil ?_
  refine Then_normal ?_
  refine wp_block' ?_
  refine wp_loopK 2 (fun m Δ LL => ∃ (i : Nat), (i + m = l.length ∧ (l.take i).all nmOk = true) ∧ Δ = [(8, .int .i64 (i : Nat))] ∧ LL = [V]) (m := l.length) (Has.cons (k := 0) rfl (Has.cons (k := 1) rfl (Has.cons (k := 7) rfl (Has.nil _)))) (kept ⟨0, ⟨by omega, by simp⟩, rfl, rfl⟩ (by repeat (first | exact Has.nil _ | refine Has.cons rfl ?_)) (by repeat (first | exact Has.nil _ | refine Has.cons rfl ?_)) (by repeat (first | exact SubH.nil _ | refine SubH.cons 0 rfl ?_ | refine SubH.cons 1 rfl ?_ | refine SubH.cons 2 rfl ?_ | refine SubH.cons 3 rfl ?_ | refine SubH.cons 4 rfl ?_ | refine SubH.cons 5 rfl ?_ | refine SubH.cons 6 rfl ?_ | refine SubH.cons 7 rfl ?_ | refine SubH.cons 8 rfl ?_ | refine SubH.cons 9 rfl ?_ | refine SubH.cons 10 rfl ?_ | refine SubH.cons 11 rfl ?_ | refine SubH.cons 12 rfl ?_ | refine SubH.cons 13 rfl ?_ | refine SubH.rown ?_))) ?_
  rintro m Δ LL ⟨i, ⟨hm, ht⟩, rfl, rfl⟩
  simp only [List.cons_append, List.nil_append]
  refine wp_seq' ?_
  refine wp_region' ?_
  refine ops_ro' rfl (ro_lss rfl rfl rfl) rfl ?_
  refine ops_nil ?_
  refine Then_normal ?_
  refine wp_seq' ?_
  refine wp_cond' rfl (fun hc9 => ?_) (fun hc9 => ?_)
  · replace hc9 := of_decide_eq_true hc9
    have hi : i < l.length := by omega
    have hln := hsm l[i] (List.getElem_mem hi)
    refine wp_know (fun w F s => vw_ptr (Vw.pick (H := [V]) 0 rfl hV) s (by omega)) ?_
    rintro ⟨b0, o0, rfl⟩
    refine wp_skip' ?_
    refine Then_normal ?_
    refine wp_seq' ?_
    refine wp_block' ?_
    refine wp_seq' ?_
    refine wp_region' ?_
    refine ops_ro' rfl (ro_move rfl) rfl ?_
    refine ops_ro' rfl (ro_assign rfl) rfl ?_
    refine ops_nil ?_
    refine Then_normal ?_
    refine wp_seq' ?_
    refine wp_region' ?_
    refine ops_ro' rfl (ro_move rfl) rfl ?_
    refine ops_ro' rfl (ro_move rfl) rfl ?_
    refine ops_ro' rfl (ro_move rfl) rfl ?_
    refine ops_ro' rfl (ro_indexSlice sl24 rfl rfl rfl (by omega)) rfl ?_
    refine ops_ro' rfl (ro_load sc9 rfl (Rd.pick 0 rfl (Rd.elem (j := 0) (vw_rdn hV) Tx.len (List.getElem?_eq_getElem hi) rfl))) rfl ?_
    refine ops_eff' rfl (eff_callV (c0 := []) (c1 := []) Tryd.call74 rfl rfl rfl (by repeat (first | exact Split.nil _ | apply Split.cons 0 rfl | apply Split.cons 1 rfl | apply Split.cons 2 rfl | apply Split.cons 3 rfl | apply Split.cons 4 rfl | apply Split.cons 5 rfl | apply Split.cons 6 rfl | apply Split.cons 7 rfl | apply Split.cons 8 rfl | apply Split.cons 9 rfl | apply Split.cons 10 rfl | apply Split.cons 11 rfl)) (names1_spec l[i] (by omega))) rfl ?_
    rintro _ H' ⟨_, ⟨rfl, rfl⟩, hH⟩
    simp only [List.cons_append, List.nil_append, List.eraseIdx_cons_zero, List.eraseIdx_cons_succ, List.set_cons_zero, List.set_cons_succ] at hH
    subst hH
    refine ops_nil ?_
    refine Then_normal ?_
    refine wp_cond' rfl (fun hc16 => ?_) (fun hc16 => ?_)
    · simp only [Bool.and_eq_true, decide_eq_true_eq, Bool.not_eq_true', decide_eq_false_iff_not, bne_iff_ne, ne_eq] at hc16
      skip
      refine wp_seq' ?_
      refine wp_region' ?_
      refine ops_ro' rfl (ro_move rfl) rfl ?_
      refine ops_ro' rfl (ro_assign rfl) rfl ?_
      refine ops_nil ?_
      refine Then_normal ?_
      refine wp_ret' ?_
      refine InBlock_ret ?_
      refine Then_ret ?_
      refine Then_ret ?_
      refine InBlock_ret ?_
      refine Then_ret ?_
      refine' doneS_ret (res1 rfl rfl) ?_ ?_
      rotate_left 1
      exact ⟨_, ⟨(i : Nat), rfl, .inl ⟨by omega, idx_no hi hc16⟩, rfl⟩, rfl⟩
      exact SubH.refl _
    · simp only [Bool.and_eq_false_iff, decide_eq_false_iff_not, Bool.not_eq_false', decide_eq_true_eq] at hc16
      skip
      refine wp_skip' ?_
      refine InBlock_normal ?_
      refine Then_normal ?_
      refine wp_region' ?_
      refine ops_ro' rfl (ro_add rfl rfl (wrap_inc (by omega))) rfl ?_
      refine ops_ro' rfl (ro_move rfl) rfl ?_
      refine ops_nil ?_
      refine Then_normal ?_
      refine back (m - 1) (by omega) (kept ⟨i + 1, ⟨by omega, by rw [List.take_succ_eq_append_getElem hi, List.all_append, ht]; simp_all⟩, rfl, rfl⟩ ?_ ?_ ?_)
      · exact (by repeat (first | exact Has.nil _ | refine Has.cons rfl ?_))
      · exact (by repeat (first | exact Has.nil _ | refine Has.cons rfl ?_))
      · exact SubH.refl _
  · replace hc9 := of_decide_eq_false hc9
    refine wp_exit' ?_
    refine Then_exit ?_
    refine Then_exit ?_
    refine InBlock_here ?_
    refine Then_normal ?_
    refine wp_seq' ?_
    refine wp_region' ?_
    refine ops_ro' rfl (ro_assign rfl) rfl ?_
    refine ops_nil ?_
    refine Then_normal ?_
    refine wp_ret' ?_
    refine' doneS_ret (res1 rfl rfl) ?_ ?_
    rotate_left 1
    exact ⟨_, ⟨-1, rfl, .inr ⟨by omega, by rw [List.take_of_length_le (by omega)] at ht; exact ht⟩, rfl⟩, rfl⟩
    exact SubH.refl _
theorem contf_spec (V : HProp) (l : List (List UInt8)) (q : Option Addr) (cq : Nat) (hV : Vw V (.slice q l.length cq) l.length (txs l)) (hl : l.length ≤ 140737488355328) (hsm : ∀ x ∈ l, x.length ≤ 140737488355328) :
    Tri Tryd.prog 42 [.slice q l.length cq, .func (.func 74) #[] #[]] [V] (fun v H' => ∃ K, (v = .bool (!l.all nmOk) ∧ K = []) ∧ H' = K ++ [V]) := by
  refine tri_of_wpS Tryd.func42 rfl Tryd.ntmps42 (by simp) ?_
  refine wp_seq' ?_
  refine wp_region' ?_
  refine ops_ro' rfl (ro_assign rfl) rfl ?_
  refine ops_nil ?_
  refine Then_normal ?_
  refine wp_seq' ?_
  refine wp_region' ?_
  refine ops_ro' rfl (ro_move rfl) rfl ?_
  refine ops_ro' rfl (ro_move rfl) rfl ?_
  refine ops_eff' rfl (eff_call Tryd.call68 rfl rfl (by repeat (first | exact Split.nil _ | apply Split.cons 0 rfl | apply Split.cons 1 rfl | apply Split.cons 2 rfl | apply Split.cons 3 rfl | apply Split.cons 4 rfl | apply Split.cons 5 rfl | apply Split.cons 6 rfl | apply Split.cons 7 rfl | apply Split.cons 8 rfl | apply Split.cons 9 rfl | apply Split.cons 10 rfl | apply Split.cons 11 rfl)) (idx_spec V l q cq hV hl hsm)) rfl ?_
  rintro _ H' ⟨_, ⟨_, ⟨k, rfl, hk, rfl⟩, rfl⟩, hH⟩
  simp only [List.cons_append, List.nil_append, List.eraseIdx_cons_zero, List.eraseIdx_cons_succ, List.set_cons_zero, List.set_cons_succ] at hH
  subst hH
  refine ops_ro' rfl (ro_geq rfl rfl (c := !l.all nmOk) (by rcases hk with ⟨h1, h2⟩ | ⟨h1, h2⟩ <;> simp [h2] <;> omega)) rfl ?_
  refine ops_ro' rfl (ro_assign rfl) rfl ?_
  refine ops_nil ?_
  refine Then_normal ?_
  refine wp_ret' ?_
  refine' doneS_ret (res1 rfl rfl) ?_ ?_
  rotate_left 1
  exact ⟨_, ⟨rfl, rfl⟩, rfl⟩
  exact SubH.refl _



end Go.Proofs.YtigaolglnnjnmaaDoor
