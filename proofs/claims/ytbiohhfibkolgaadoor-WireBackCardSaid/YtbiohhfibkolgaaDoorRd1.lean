/-
  More of the reader of package wire.
-/
import Derived.Test.YtbiohhfibkolgaaDoorRText
import Derived.Test.YtbiohhfibkolgaaDoorTxt
import Derived.Test.YtbiohhfibkolgaaDoorWire2
import Derived.Test.YtbiohhfibkolgaaDoorParts
import Derived.Test.YtbiohhfibkolgaaDoorLib
namespace Go.Proofs.YtbiohhfibkolgaaDoor
open Go.Sx
set_option linter.unusedVariables false
set_option linter.unusedSimpArgs false
set_option maxRecDepth 100000
set_option maxHeartbeats 4000000

theorem text_at (pw : Nat) (p : Option Addr) (c : Nat) (l s : List UInt8) (hs : l.length + 4 + s.length ≤ 140737488355328) :
    Tri Tryd.prog 10 [.pointer (some ⟨pw, 0, none⟩), .string (str s)] (wr pw p c l) (fun r H' => ∃ p' c', r = .tuple #[] ∧ H' = wr pw p' c' (l ++ be s.length 4 ++ s)) := by
  have h := text_run pw p c l (str s) (by rw [str_size]; exact hs)
  rw [str_size] at h; exact h
theorem R.text_len (r : R) (n : Int) : (r.text n).2.length < 4294967296 := by
  have h1 := get_lt r 4
  have h2 := take_len (if (if 0 > n then 0 else n) < ((r.get 4).2 : Int) then (r.get 4).1.refuse 3 r.pos else (r.get 4).1) ((r.get 4).2 : Nat)
  have e : (r.text n).2.length ≤ ((((r.get 4).2 : Nat) : Int)).toNat := h2
  simp only [Nat.reducePow] at h1
  omega
theorem rByte_spec (pr : Nat) (p : Option Addr) (c : Nat) (r : R) (hg : r.Good) : Tri Tryd.prog 25 [.pointer (some ⟨pr, 0, none⟩)] (rd pr p c r) (fun v H' => v = .int .i64 (r.get 1).2 ∧ H' = rd pr p c (r.get 1).1) := by
  refine tri_of_wpS Tryd.func25 rfl Tryd.ntmps25 (by simp) ?_
  refine wp_seq' ?_
  refine wp_region' ?_
  refine ops_ro' rfl (ro_assign rfl) rfl ?_
  refine ops_nil ?_
  refine Then_normal ?_
  refine wp_seq' ?_
  refine wp_region' ?_
  refine ops_ro' rfl (ro_move rfl) rfl ?_
  refine ops_eff' rfl (eff_call Tryd.call51 rfl rfl (by repeat (first | exact Split.nil _ | apply Split.cons 0 rfl | apply Split.cons 1 rfl | apply Split.cons 2 rfl | apply Split.cons 3 rfl | apply Split.cons 4 rfl | apply Split.cons 5 rfl | apply Split.cons 6 rfl | apply Split.cons 7 rfl | apply Split.cons 8 rfl | apply Split.cons 9 rfl | apply Split.cons 10 rfl | apply Split.cons 11 rfl)) (get_spec pr p c r 1 (by omega) hg.len hg.pos)) rfl ?_
  rintro _ H' ⟨_, ⟨rfl, rfl⟩, hH⟩
  simp only [List.cons_append, List.nil_append, List.eraseIdx_cons_zero, List.eraseIdx_cons_succ, List.set_cons_zero, List.set_cons_succ] at hH
  subst hH
  have hlt := get_lt r 1
  simp only [Nat.reducePow] at hlt
  refine ops_ro' rfl (ro_conv Tryd.underlying38 Tryd.underlying3 rfl (wrap_natN (by omega))) rfl ?_
  refine ops_ro' rfl (ro_assign rfl) rfl ?_
  refine ops_nil ?_
  refine Then_normal ?_
  refine wp_ret' ?_
  refine' doneS_ret (res1 rfl rfl) ?_ ?_
  rotate_left 1
  exact ⟨rfl, rfl⟩
  exact SubH.refl _
theorem rBool_spec (pr : Nat) (p : Option Addr) (c : Nat) (r : R) (hg : r.Good) : Tri Tryd.prog 31 [.pointer (some ⟨pr, 0, none⟩)] (rd pr p c r) (fun v H' => v = .bool (decide (((r.get 1).2 : Int) ≠ 0)) ∧ H' = rd pr p c (r.get 1).1) := by
  refine tri_of_wpS Tryd.func31 rfl Tryd.ntmps31 (by simp) ?_
  refine wp_seq' ?_
  refine wp_region' ?_
  refine ops_ro' rfl (ro_assign rfl) rfl ?_
  refine ops_nil ?_
  refine Then_normal ?_
  refine wp_seq' ?_
  refine wp_region' ?_
  refine ops_ro' rfl (ro_move rfl) rfl ?_
  refine ops_eff' rfl (eff_call Tryd.call51 rfl rfl (by repeat (first | exact Split.nil _ | apply Split.cons 0 rfl | apply Split.cons 1 rfl | apply Split.cons 2 rfl | apply Split.cons 3 rfl | apply Split.cons 4 rfl | apply Split.cons 5 rfl | apply Split.cons 6 rfl | apply Split.cons 7 rfl | apply Split.cons 8 rfl | apply Split.cons 9 rfl | apply Split.cons 10 rfl | apply Split.cons 11 rfl)) (get_spec pr p c r 1 (by omega) hg.len hg.pos)) rfl ?_
  rintro _ H' ⟨_, ⟨rfl, rfl⟩, hH⟩
  simp only [List.cons_append, List.nil_append, List.eraseIdx_cons_zero, List.eraseIdx_cons_succ, List.set_cons_zero, List.set_cons_succ] at hH
  subst hH
  refine ops_ro' rfl (ro_neq rfl rfl rfl) rfl ?_
  refine ops_ro' rfl (ro_assign rfl) rfl ?_
  refine ops_nil ?_
  refine Then_normal ?_
  refine wp_ret' ?_
  refine' doneS_ret (res1 rfl rfl) ?_ ?_
  rotate_left 1
  exact ⟨rfl, rfl⟩
  exact SubH.refl _
theorem rRaw_spec (pr : Nat) (p : Option Addr) (c : Nat) (r : R) (hg : r.Good) (n : Int) : Tri Tryd.prog 32 [.pointer (some ⟨pr, 0, none⟩), .int .i64 n] (rd pr p c r) (fun v H' => ∃ A, Out v (r.take n).2 A ∧ H' = A :: rd pr p c (r.take n).1) := by
  refine tri_of_wpS Tryd.func32 rfl Tryd.ntmps32 (by simp) ?_
  refine wp_seq' ?_
  refine wp_region' ?_
  refine ops_ro' rfl (ro_assign rfl) rfl ?_
  refine ops_nil ?_
  refine Then_normal ?_
  refine wp_seq' ?_
  refine wp_region' ?_
  refine ops_ro' rfl (ro_move rfl) rfl ?_
  refine ops_ro' rfl (ro_move rfl) rfl ?_
  refine ops_eff' rfl (eff_call Tryd.call52 rfl rfl (by repeat (first | exact Split.nil _ | apply Split.cons 0 rfl | apply Split.cons 1 rfl | apply Split.cons 2 rfl | apply Split.cons 3 rfl | apply Split.cons 4 rfl | apply Split.cons 5 rfl | apply Split.cons 6 rfl | apply Split.cons 7 rfl | apply Split.cons 8 rfl | apply Split.cons 9 rfl | apply Split.cons 10 rfl | apply Split.cons 11 rfl)) (take_spec _ _ _ _ _ (R.Good.len (by repeat (first | assumption | (with_reducible first | apply R.good_get | apply R.good_text | apply R.good_take | apply R.good_fail | apply R.good_refuse) | (apply R.good_new; omega)))) (R.Good.pos (by repeat (first | assumption | (with_reducible first | apply R.good_get | apply R.good_text | apply R.good_take | apply R.good_fail | apply R.good_refuse) | (apply R.good_new; omega)))))) rfl ?_
  rintro _ H' ⟨_, ⟨A, ⟨p', c', rfl, hs, rfl⟩, rfl⟩, hH⟩
  simp only [List.cons_append, List.nil_append, List.eraseIdx_cons_zero, List.eraseIdx_cons_succ, List.set_cons_zero, List.set_cons_succ] at hH
  subst hH
  refine ops_ro' rfl (ro_assign rfl) rfl ?_
  refine ops_nil ?_
  refine Then_normal ?_
  refine wp_ret' ?_
  refine' doneS_ret (res1 rfl rfl) ?_ ?_
  rotate_left 1
  exact ⟨_, ⟨p', c', rfl, hs, rfl⟩, rfl⟩
  exact SubH.refl _
theorem rRest_spec (pr : Nat) (p : Option Addr) (c : Nat) (r : R) (hg : r.Good) : Tri Tryd.prog 61 [.pointer (some ⟨pr, 0, none⟩)] (rd pr p c r) (fun v H' => ∃ A, Out v (r.take r.left).2 A ∧ H' = A :: rd pr p c (r.take r.left).1) := by
  refine tri_of_wpS Tryd.func61 rfl Tryd.ntmps61 (by simp) ?_
  refine wp_seq' ?_
  refine wp_region' ?_
  refine ops_ro' rfl (ro_assign rfl) rfl ?_
  refine ops_nil ?_
  refine Then_normal ?_
  refine wp_seq' ?_
  refine wp_region' ?_
  refine ops_ro' rfl (ro_move rfl) rfl ?_
  refine ops_ro' rfl (ro_move rfl) rfl ?_
  refine ops_eff' rfl (eff_call Tryd.call36 rfl rfl (by repeat (first | exact Split.nil _ | apply Split.cons 0 rfl | apply Split.cons 1 rfl | apply Split.cons 2 rfl | apply Split.cons 3 rfl | apply Split.cons 4 rfl | apply Split.cons 5 rfl | apply Split.cons 6 rfl | apply Split.cons 7 rfl | apply Split.cons 8 rfl | apply Split.cons 9 rfl | apply Split.cons 10 rfl | apply Split.cons 11 rfl)) (left_spec pr p c r hg.len hg.pos)) rfl ?_
  rintro _ H' ⟨_, ⟨rfl, rfl⟩, hH⟩
  simp only [List.cons_append, List.nil_append, List.eraseIdx_cons_zero, List.eraseIdx_cons_succ, List.set_cons_zero, List.set_cons_succ] at hH
  subst hH
  refine ops_eff' rfl (eff_call Tryd.call52 rfl rfl (by repeat (first | exact Split.nil _ | apply Split.cons 0 rfl | apply Split.cons 1 rfl | apply Split.cons 2 rfl | apply Split.cons 3 rfl | apply Split.cons 4 rfl | apply Split.cons 5 rfl | apply Split.cons 6 rfl | apply Split.cons 7 rfl | apply Split.cons 8 rfl | apply Split.cons 9 rfl | apply Split.cons 10 rfl | apply Split.cons 11 rfl)) (take_spec pr p c r r.left hg.len hg.pos)) rfl ?_
  rintro _ H' ⟨_, ⟨A, ⟨p', c', rfl, hs, rfl⟩, rfl⟩, hH⟩
  simp only [List.cons_append, List.nil_append, List.eraseIdx_cons_zero, List.eraseIdx_cons_succ, List.set_cons_zero, List.set_cons_succ] at hH
  subst hH
  refine ops_ro' rfl (ro_assign rfl) rfl ?_
  refine ops_nil ?_
  refine Then_normal ?_
  refine wp_ret' ?_
  refine' doneS_ret (res1 rfl rfl) ?_ ?_
  rotate_left 1
  exact ⟨_, ⟨p', c', rfl, hs, rfl⟩, rfl⟩
  exact SubH.refl _
/-- a number that is written wrongly -/
def badN : List UInt8 → Bool
  | [] => false
  | [b] => decide (128 ≤ b.toNat) || decide (b.toNat = 0)
  | b :: d :: _ => decide (128 ≤ b.toNat) || (decide (b.toNat = 0) && decide (d.toNat < 128))
def R.mp (r : R) (most : Int) : R × List UInt8 := if (r.text most).1.why ≠ 0 ∨ (r.text most).2 = [] then ((r.text most).1, []) else if badN (r.text most).2 = true then ((r.text most).1.refuse 12 r.pos, []) else ((r.text most).1, bare (r.text most).2)
theorem R.mp_no {r q : R} {most : Int} {s : List UInt8} (e : r.text most = (q, s)) (h : q.why ≠ 0 ∨ s = []) : r.mp most = (q, []) := by unfold R.mp; rw [e]; simp only; rw [if_pos h]
theorem R.mp_bad {r q : R} {most : Int} {s : List UInt8} (e : r.text most = (q, s)) (h : q.why = 0) (h1 : s ≠ []) (hb : badN s = true) : r.mp most = (q.refuse 12 r.pos, []) := by unfold R.mp; rw [e]; simp only; rw [if_neg (by simp [h, h1]), if_pos hb]
theorem R.mp_good {r q : R} {most : Int} {s : List UInt8} (e : r.text most = (q, s)) (h : q.why = 0) (h1 : s ≠ []) (hb : badN s = false) : r.mp most = (q, bare s) := by unfold R.mp; rw [e]; simp only; rw [if_neg (by simp [h, h1]), if_neg (by simp [hb])]
theorem R.good_mp {r : R} (h : r.Good) (n : Int) : (r.mp n).1.Good := by
  unfold R.mp; split
  · exact R.good_text h n
  · split
    · exact R.good_refuse (R.good_text h n) _ _
    · exact R.good_text h n
theorem badN_cons (b : UInt8) (l : List UInt8) : badN (b :: l) = (decide (128 ≤ b.toNat) || (decide (b.toNat = 0) && (decide (l.length = 0) || decide ((l.headD 0).toNat < 128)))) := by
  cases l with
  | nil => simp [badN]
  | cons d t => simp [badN]
theorem bare_good0 {b : UInt8} {l : List UInt8} (hb : badN (b :: l) = false) (h : b.toNat = 0) : bare (b :: l) = l := by
  have h0 : b = 0 := UInt8.toNat_inj.1 h
  subst h0
  rw [badN_cons] at hb
  cases l with
  | nil => simp at hb
  | cons d t =>
    rw [bare_zero]
    refine bare_stop t fun e => ?_
    subst e; simp at hb
theorem bare_good1 {b : UInt8} {l : List UInt8} (h : ¬ b.toNat = 0) : bare (b :: l) = b :: l := bare_stop l fun e => h (by rw [e]; rfl)


/-- the library's number of the longest text that is sought at once can be read -/
def Ml (V : HProp) : Prop := ∀ w R, sat w (star V R) → ∃ m, w.cell? ⟨0, 0, none⟩ = some (.int .i64 m)
theorem Ml.pick {V : HProp} {H : List HProp} (i : Nat) (hi : H[i]? = some V) (h : Ml V) : Ml (St H) := fun w R s => by
  rw [St_pick hi, star_assoc] at s; exact h w _ s
theorem split_spec (V : HProp) (hM : Ml V) (s : List UInt8) (c : UInt8) (hs : s.length < 4294967281) :
    Tri Tryd.prog 43 [.string (str s), .string (str [c])] [V] (fun v H' => ∃ K, (∃ b, v = .slice (some ⟨b, 0, none⟩) (parts c s).length (parts c s).length ∧ K = [row 9 1 (.slice (some ⟨b, 0, none⟩) (parts c s).length (parts c s).length) (parts c s).length (txs (parts c s))]) ∧ H' = K ++ [V]) := fun w F hw => by
  have hw' : sat w (star V F) := by rwa [St_cons, St_nil, star_emp] at hw
  obtain ⟨m, hm⟩ := hM w F hw'
  refine (Tryd.strings_Split (str s) (str [c]) m w (by rw [str_size]; exact hs) hm (by rw [str_size]; exact Nat.le_refl _)).mono ?_
  rintro e w' ⟨rfl, rfl⟩
  rw [countB_parts, splitB_parts, ← txs_map]
  refine ⟨_, _, rfl, ⟨_, ⟨w.heap.size, rfl, rfl⟩, rfl⟩, ?_⟩
  simp only [List.cons_append, List.nil_append, St_cons, St_nil, star_emp, star_assoc]
  have hl := parts_length_le c s
  exact row_mk (cs := txs (parts c s)) (fr := (0, 0)) (Nat.le_refl _) (by simp only [maxLen]; omega) (by rw [flat_len Tx.len]) (by rw [← flat_len Tx.len]; exact List.take_length) (warm_zero _) (sat_alloc (w := w) rfl hw' rfl)


theorem names1_spec (s : List UInt8) (hs : s.length ≤ 9223372036854775806) : Tri Tryd.prog 45 [.string (str s)] [] (fun v H' => v = .bool (!nmOk s) ∧ H' = []) := by
  refine tri_of_wpS Tryd.func45 rfl Tryd.ntmps45 (by simp) ?_
  refine wp_seq' ?_
  refine wp_region' ?_
  refine ops_ro' rfl (ro_assign rfl) rfl ?_
  refine ops_nil ?_
  refine Then_normal ?_
  refine wp_seq' ?_
  refine wp_region' ?_
  refine ops_ro' rfl (ro_move rfl) rfl ?_
  refine ops_eff' rfl (eff_call Tryd.call46 rfl rfl (by repeat (first | exact Split.nil _ | apply Split.cons 0 rfl | apply Split.cons 1 rfl | apply Split.cons 2 rfl | apply Split.cons 3 rfl | apply Split.cons 4 rfl | apply Split.cons 5 rfl | apply Split.cons 6 rfl | apply Split.cons 7 rfl | apply Split.cons 8 rfl | apply Split.cons 9 rfl | apply Split.cons 10 rfl | apply Split.cons 11 rfl)) (wName_spec _ (by omega))) rfl ?_
  rintro _ H' ⟨_, ⟨rfl, rfl⟩, hH⟩
  simp only [List.cons_append, List.nil_append, List.eraseIdx_cons_zero, List.eraseIdx_cons_succ, List.set_cons_zero, List.set_cons_succ] at hH
  subst hH
  refine ops_ro' rfl (ro_not rfl rfl) rfl ?_
  refine ops_ro' rfl (ro_assign rfl) rfl ?_
  refine ops_nil ?_
  refine Then_normal ?_
  refine wp_ret' ?_
  refine' doneS_ret (res1 rfl rfl) ?_ ?_
  rotate_left 1
  exact ⟨rfl, rfl⟩
  exact SubH.refl _
theorem idx_no {l : List (List UInt8)} {i : Nat} (hi : i < l.length) (h : nmOk l[i] = false) : l.all nmOk = false := by
  cases hh : l.all nmOk with
  | false => rfl
  | true => have := List.all_eq_true.1 hh l[i] (List.getElem_mem hi); rw [this] at h; cases h
theorem idx_spec (V : HProp) (l : List (List UInt8)) (q : Option Addr) (cq : Nat) (hV : Vw V (.slice q l.length cq) l.length (txs l)) (hl : l.length ≤ 140737488355328) (hsm : ∀ x ∈ l, x.length ≤ 140737488355328) :
    Tri Tryd.prog 75 [.slice q l.length cq, .func (.func 45) #[] #[]] [V] (fun v H' => ∃ K, (∃ k : Int, v = .int .i64 k ∧ ((0 ≤ k ∧ l.all nmOk = false) ∨ (k < 0 ∧ l.all nmOk = true)) ∧ K = []) ∧ H' = K ++ [V]) := by
  refine tri_of_wpS Tryd.func75 rfl Tryd.ntmps75 (by simp) ?_
  refine wp_seq' ?_
  refine wp_region' ?_
  refine ops_ro' rfl (ro_assign rfl) rfl ?_
  refine ops_nil ?_
  refine Then_normal ?_
  refine wp_seq' ?_
  refine wp_seq' ?_
  refine wp_region' ?_
  refine ops_ro' rfl (ro_move rfl) rfl ?_
  refine ops_ro' rfl (ro_sliceLen Tryd.underlying30 rfl) rfl ?_
  refine ops_ro' rfl (ro_move rfl) rfl ?_
  refine ops_nil ?_
  refine Then_normal ?_
  refine wp_block' ?_
  refine wp_loopK 2 (fun m Δ LL => ∃ (i : Nat), (i + m = l.length ∧ (l.take i).all nmOk = true) ∧ Δ = [(8, .int .i64 (i : Nat))] ∧ LL = [V]) (m := l.length) (Has.cons (k := 0) rfl (Has.cons (k := 1) rfl (Has.cons (k := 7) rfl (Has.nil _)))) (kept ⟨0, ⟨by omega, by simp⟩, rfl, rfl⟩ (by repeat (first | exact Has.nil _ | refine Has.cons rfl ?_)) (by repeat (first | exact Has.nil _ | refine Has.cons rfl ?_)) (by repeat (first | exact SubH.nil _ | refine SubH.cons 0 rfl ?_ | refine SubH.cons 1 rfl ?_ | refine SubH.cons 2 rfl ?_ | refine SubH.cons 3 rfl ?_ | refine SubH.cons 4 rfl ?_ | refine SubH.cons 5 rfl ?_ | refine SubH.cons 6 rfl ?_ | refine SubH.cons 7 rfl ?_ | refine SubH.cons 8 rfl ?_ | refine SubH.cons 9 rfl ?_ | refine SubH.cons 10 rfl ?_ | refine SubH.cons 11 rfl ?_ | refine SubH.cons 12 rfl ?_ | refine SubH.cons 13 rfl ?_ | refine SubH.rown ?_))) ?_
  rintro m Δ LL ⟨i, ⟨hm, ht⟩, rfl, rfl⟩
  simp only [List.cons_append, List.nil_append]
  refine wp_seq' ?_
  refine wp_region' ?_
  refine ops_ro' rfl (ro_lss rfl rfl rfl) rfl ?_
  refine ops_nil ?_
  refine Then_normal ?_
  refine wp_seq' ?_
  refine wp_cond' rfl (fun hc9 => ?_) (fun hc9 => ?_)
  · replace hc9 := of_decide_eq_true hc9
    have hi : i < l.length := by omega
    have hln := hsm l[i] (List.getElem_mem hi)
    refine wp_know (fun w F s => vw_ptr (Vw.pick (H := [V]) 0 rfl hV) s (by omega)) ?_
    rintro ⟨b0, o0, rfl⟩
    refine wp_skip' ?_
    refine Then_normal ?_
    refine wp_seq' ?_
    refine wp_block' ?_
    refine wp_seq' ?_
    refine wp_region' ?_
    refine ops_ro' rfl (ro_move rfl) rfl ?_
    refine ops_ro' rfl (ro_assign rfl) rfl ?_
    refine ops_nil ?_
    refine Then_normal ?_
    refine wp_seq' ?_
    refine wp_region' ?_
    refine ops_ro' rfl (ro_move rfl) rfl ?_
    refine ops_ro' rfl (ro_move rfl) rfl ?_
    refine ops_ro' rfl (ro_move rfl) rfl ?_
    refine ops_ro' rfl (ro_indexSlice sl30 rfl rfl rfl (by omega)) rfl ?_
    refine ops_ro' rfl (ro_load sc9 rfl (Rd.pick 0 rfl (Rd.elem (j := 0) (vw_rdn hV) Tx.len (List.getElem?_eq_getElem hi) rfl))) rfl ?_
    refine ops_eff' rfl (eff_callV (c0 := []) (c1 := []) Tryd.call45 rfl rfl rfl (by repeat (first | exact Split.nil _ | apply Split.cons 0 rfl | apply Split.cons 1 rfl | apply Split.cons 2 rfl | apply Split.cons 3 rfl | apply Split.cons 4 rfl | apply Split.cons 5 rfl | apply Split.cons 6 rfl | apply Split.cons 7 rfl | apply Split.cons 8 rfl | apply Split.cons 9 rfl | apply Split.cons 10 rfl | apply Split.cons 11 rfl)) (names1_spec l[i] (by omega))) rfl ?_
    rintro _ H' ⟨_, ⟨rfl, rfl⟩, hH⟩
    simp only [List.cons_append, List.nil_append, List.eraseIdx_cons_zero, List.eraseIdx_cons_succ, List.set_cons_zero, List.set_cons_succ] at hH
    subst hH
    refine ops_nil ?_
    refine Then_normal ?_
    refine wp_cond' rfl (fun hc16 => ?_) (fun hc16 => ?_)
    · simp only [Bool.and_eq_true, decide_eq_true_eq, Bool.not_eq_true', decide_eq_false_iff_not, bne_iff_ne, ne_eq] at hc16
      skip
      refine wp_seq' ?_
      refine wp_region' ?_
      refine ops_ro' rfl (ro_move rfl) rfl ?_
      refine ops_ro' rfl (ro_assign rfl) rfl ?_
      refine ops_nil ?_
      refine Then_normal ?_
      refine wp_ret' ?_
      refine InBlock_ret ?_
      refine Then_ret ?_
      refine Then_ret ?_
      refine InBlock_ret ?_
      refine Then_ret ?_
      refine' doneS_ret (res1 rfl rfl) ?_ ?_
      rotate_left 1
      exact ⟨_, ⟨(i : Nat), rfl, .inl ⟨by omega, idx_no hi hc16⟩, rfl⟩, rfl⟩
      exact SubH.refl _
    · simp only [Bool.and_eq_false_iff, decide_eq_false_iff_not, Bool.not_eq_false', decide_eq_true_eq] at hc16
      skip
      refine wp_skip' ?_
      refine InBlock_normal ?_
      refine Then_normal ?_
      refine wp_region' ?_
      refine ops_ro' rfl (ro_add rfl rfl (wrap_inc (by omega))) rfl ?_
      refine ops_ro' rfl (ro_move rfl) rfl ?_
      refine ops_nil ?_
      refine Then_normal ?_
      refine back (m - 1) (by omega) (kept ⟨i + 1, ⟨by omega, by rw [List.take_succ_eq_append_getElem hi, List.all_append, ht]; simp_all⟩, rfl, rfl⟩ ?_ ?_ ?_)
      · exact (by repeat (first | exact Has.nil _ | refine Has.cons rfl ?_))
      · exact (by repeat (first | exact Has.nil _ | refine Has.cons rfl ?_))
      · exact SubH.refl _
  · replace hc9 := of_decide_eq_false hc9
    refine wp_exit' ?_
    refine Then_exit ?_
    refine Then_exit ?_
    refine InBlock_here ?_
    refine Then_normal ?_
    refine wp_seq' ?_
    refine wp_region' ?_
    refine ops_ro' rfl (ro_assign rfl) rfl ?_
    refine ops_nil ?_
    refine Then_normal ?_
    refine wp_ret' ?_
    refine' doneS_ret (res1 rfl rfl) ?_ ?_
    rotate_left 1
    exact ⟨_, ⟨-1, rfl, .inr ⟨by omega, by rw [List.take_of_length_le (by omega)] at ht; exact ht⟩, rfl⟩, rfl⟩
    exact SubH.refl _
theorem contf_spec (V : HProp) (l : List (List UInt8)) (q : Option Addr) (cq : Nat) (hV : Vw V (.slice q l.length cq) l.length (txs l)) (hl : l.length ≤ 140737488355328) (hsm : ∀ x ∈ l, x.length ≤ 140737488355328) :
    Tri Tryd.prog 44 [.slice q l.length cq, .func (.func 45) #[] #[]] [V] (fun v H' => ∃ K, (v = .bool (!l.all nmOk) ∧ K = []) ∧ H' = K ++ [V]) := by
  refine tri_of_wpS Tryd.func44 rfl Tryd.ntmps44 (by simp) ?_
  refine wp_seq' ?_
  refine wp_region' ?_
  refine ops_ro' rfl (ro_assign rfl) rfl ?_
  refine ops_nil ?_
  refine Then_normal ?_
  refine wp_seq' ?_
  refine wp_region' ?_
  refine ops_ro' rfl (ro_move rfl) rfl ?_
  refine ops_ro' rfl (ro_move rfl) rfl ?_
  refine ops_eff' rfl (eff_call Tryd.call75 rfl rfl (by repeat (first | exact Split.nil _ | apply Split.cons 0 rfl | apply Split.cons 1 rfl | apply Split.cons 2 rfl | apply Split.cons 3 rfl | apply Split.cons 4 rfl | apply Split.cons 5 rfl | apply Split.cons 6 rfl | apply Split.cons 7 rfl | apply Split.cons 8 rfl | apply Split.cons 9 rfl | apply Split.cons 10 rfl | apply Split.cons 11 rfl)) (idx_spec V l q cq hV hl hsm)) rfl ?_
  rintro _ H' ⟨_, ⟨_, ⟨k, rfl, hk, rfl⟩, rfl⟩, hH⟩
  simp only [List.cons_append, List.nil_append, List.eraseIdx_cons_zero, List.eraseIdx_cons_succ, List.set_cons_zero, List.set_cons_succ] at hH
  subst hH
  refine ops_ro' rfl (ro_geq rfl rfl (c := !l.all nmOk) (by rcases hk with ⟨h1, h2⟩ | ⟨h1, h2⟩ <;> simp [h2] <;> omega)) rfl ?_
  refine ops_ro' rfl (ro_assign rfl) rfl ?_
  refine ops_nil ?_
  refine Then_normal ?_
  refine wp_ret' ?_
  refine' doneS_ret (res1 rfl rfl) ?_ ?_
  rotate_left 1
  exact ⟨_, ⟨rfl, rfl⟩, rfl⟩
  exact SubH.refl _


theorem rMpint_spec (pr : Nat) (p : Option Addr) (c : Nat) (r : R) (hg : r.Good) (most : Int) (hm : -9223372036854775808 ≤ most ∧ most ≤ 9223372036854775807) : Tri Tryd.prog 29 [.pointer (some ⟨pr, 0, none⟩), .int .i64 most] (rd pr p c r)
    (fun v H' => ∃ p' c', v = .slice p' (r.mp most).2.length c' ∧ H' = row 5 1 (.slice p' (r.mp most).2.length c') (r.mp most).2.length (cel (r.mp most).2) :: rd pr p c (r.mp most).1) := by
  refine tri_of_wpS Tryd.func29 rfl Tryd.ntmps29 (by simp) ?_
  refine wp_seq' ?_
  refine wp_region' ?_
  refine ops_ro' rfl (ro_assign rfl) rfl ?_
  refine ops_nil ?_
  refine Then_normal ?_
  refine wp_seq' ?_
  refine wp_region' ?_
  refine ops_ro' rfl (ro_move rfl) rfl ?_
  refine ops_ro' rfl (ro_nilCheck rfl) rfl ?_
  refine ops_ro' rfl (ro_fieldAddr fa75_1 rfl) rfl ?_
  refine ops_ro' rfl (ro_load sc3 rfl (Rd.pick 0 rfl (Rd.own rfl))) rfl ?_
  refine ops_ro' rfl (ro_assign rfl) rfl ?_
  refine ops_nil ?_
  refine Then_normal ?_
  refine wp_seq' ?_
  refine wp_region' ?_
  refine ops_ro' rfl (ro_move rfl) rfl ?_
  refine ops_ro' rfl (ro_move rfl) rfl ?_
  refine ops_eff' rfl (eff_call Tryd.call28 rfl rfl (by repeat (first | exact Split.nil _ | apply Split.cons 0 rfl | apply Split.cons 1 rfl | apply Split.cons 2 rfl | apply Split.cons 3 rfl | apply Split.cons 4 rfl | apply Split.cons 5 rfl | apply Split.cons 6 rfl | apply Split.cons 7 rfl | apply Split.cons 8 rfl | apply Split.cons 9 rfl | apply Split.cons 10 rfl | apply Split.cons 11 rfl)) (rText_spec pr p c r hg most hm)) rfl ?_
  rintro _ H' ⟨_, ⟨rfl, rfl⟩, hH⟩
  simp only [List.cons_append, List.nil_append, List.eraseIdx_cons_zero, List.eraseIdx_cons_succ, List.set_cons_zero, List.set_cons_succ] at hH
  subst hH
  have hg1 := R.good_text hg most
  have hln := R.text_len r most
  generalize et : r.text most = t at *
  obtain ⟨q, s⟩ := t
  simp only at *
  refine ops_ro' rfl (ro_assign rfl) rfl ?_
  refine ops_nil ?_
  refine Then_normal ?_
  refine wp_seq' ?_
  refine wp_seq' ?_
  refine wp_region' ?_
  refine ops_ro' rfl (ro_move rfl) rfl ?_
  refine ops_ro' rfl (ro_nilCheck rfl) rfl ?_
  refine ops_ro' rfl (ro_fieldAddr fa75_2 rfl) rfl ?_
  refine ops_ro' rfl (ro_load sc32 rfl (Rd.pick 0 rfl (Rd.own rfl))) rfl ?_
  refine ops_ro' rfl (ro_neq rfl rfl rfl) rfl ?_
  refine ops_split rfl rfl rfl (fun hg19 => ?_) (fun hg19 => ?_)
  · replace hg19 := of_decide_eq_true hg19
    refine ops_skip' rfl rfl ?_
    refine ops_skip' rfl rfl ?_
    refine ops_ro' rfl (ro_pick rfl rfl) rfl ?_
    refine ops_nil ?_
    refine Then_normal ?_
    refine wp_condT rfl ?_
    refine wp_seq' ?_
    refine wp_region' ?_
    refine ops_ro' rfl (ro_assign rfl) rfl ?_
    refine ops_nil ?_
    refine Then_normal ?_
    refine wp_ret' ?_
    refine Then_ret ?_
    refine' doneS_ret (res1 rfl rfl) ?_ ?_
    rotate_left 1
    exact ⟨none, 0, by rw [R.mp_no et (by first | exact .inl (by assumption) | exact .inr (by assumption))]; try rfl, by rw [R.mp_no et (by first | exact .inl (by assumption) | exact .inr (by assumption))]; try rfl⟩
    exact (SubH.rown (SubH.cons 0 rfl (SubH.cons 0 rfl (SubH.nil _))))
  · replace hg19 := of_decide_eq_false hg19
    refine ops_ro' rfl (ro_move rfl) rfl ?_
    refine ops_ro' rfl (ro_eqlS rfl rfl rfl) rfl ?_
    refine ops_ro' rfl (ro_pick rfl rfl) rfl ?_
    refine ops_nil ?_
    refine Then_normal ?_
    refine wp_cond' rfl (fun hc22 => ?_) (fun hc22 => ?_)
    · replace hc22 := of_decide_eq_true hc22
      refine wp_seq' ?_
      refine wp_region' ?_
      refine ops_ro' rfl (ro_assign rfl) rfl ?_
      refine ops_nil ?_
      refine Then_normal ?_
      refine wp_ret' ?_
      refine Then_ret ?_
      refine' doneS_ret (res1 rfl rfl) ?_ ?_
      rotate_left 1
      exact ⟨none, 0, by rw [R.mp_no et (by first | exact .inl (by assumption) | exact .inr (by assumption))]; try rfl, by rw [R.mp_no et (by first | exact .inl (by assumption) | exact .inr (by assumption))]; try rfl⟩
      exact (SubH.rown (SubH.cons 0 rfl (SubH.cons 0 rfl (SubH.nil _))))
    · replace hc22 := of_decide_eq_false hc22
      refine wp_skip' ?_
      refine Then_normal ?_
      refine wp_seq' ?_
      refine wp_seq' ?_
      obtain ⟨b, l, rfl⟩ : ∃ b l, s = b :: l := by
        cases s with
        | nil => first | contradiction | simp_all
        | cons b l => exact ⟨b, l, rfl⟩
      have hb := UInt8.toNat_lt b
      have hq : q.why = 0 := by omega
      refine wp_region' ?_
      refine ops_ro' rfl (ro_move rfl) rfl ?_
      refine ops_ro' rfl (ro_indexS Tryd.underlying9 rfl rfl rfl (by simp)) rfl ?_
      refine ops_ro' rfl (ro_geq rfl rfl rfl) rfl ?_
      refine ops_split rfl rfl rfl (fun hg26 => ?_) (fun hg26 => ?_)
      · replace hg26 := of_decide_eq_true hg26
        dsimp only at hg26
        refine ops_skip' rfl rfl ?_
        refine ops_skip' rfl rfl ?_
        refine ops_skip' rfl rfl ?_
        refine ops_skip' rfl rfl ?_
        refine ops_skip' rfl rfl ?_
        refine ops_skip' rfl rfl ?_
        refine ops_skip' rfl rfl ?_
        refine ops_skip' rfl rfl ?_
        refine ops_skip' rfl rfl ?_
        refine ops_skip' rfl rfl ?_
        refine ops_skip' rfl rfl ?_
        refine ops_skip' rfl rfl ?_
        refine ops_skip' rfl rfl ?_
        refine ops_ro' rfl (ro_pick rfl rfl) rfl ?_
        refine ops_nil ?_
        refine Then_normal ?_
        refine wp_condT rfl ?_
        refine wp_seq' ?_
        have h1 : ∀ h : 1 < (b :: l).length, (b :: l)[1] = l.headD 0 := fun h => by cases l with
          | nil => simp at h
          | cons d t => rfl
        have hbad : badN (b :: l) = true := by
          rw [badN_cons]
          simp only [h1, List.getElem_cons_zero, Bool.or_eq_true, Bool.and_eq_true, decide_eq_true_eq, List.length_cons] at *
          have hlen : (b :: l).length = l.length + 1 := rfl
          omega
        refine wp_region' ?_
        refine ops_ro' rfl (ro_move rfl) rfl ?_
        refine ops_ro' rfl (ro_move rfl) rfl ?_
        refine ops_eff' rfl (eff_call Tryd.call47 rfl rfl (by repeat (first | exact Split.nil _ | apply Split.cons 0 rfl | apply Split.cons 1 rfl | apply Split.cons 2 rfl | apply Split.cons 3 rfl | apply Split.cons 4 rfl | apply Split.cons 5 rfl | apply Split.cons 6 rfl | apply Split.cons 7 rfl | apply Split.cons 8 rfl | apply Split.cons 9 rfl | apply Split.cons 10 rfl | apply Split.cons 11 rfl)) (refuse_spec pr p c q 12 r.pos)) rfl ?_
        rintro _ H' ⟨_, ⟨rfl, rfl⟩, hH⟩
        simp only [List.cons_append, List.nil_append, List.eraseIdx_cons_zero, List.eraseIdx_cons_succ, List.set_cons_zero, List.set_cons_succ] at hH
        subst hH
        refine ops_nil ?_
        refine Then_normal ?_
        refine wp_seq' ?_
        refine wp_region' ?_
        refine ops_ro' rfl (ro_assign rfl) rfl ?_
        refine ops_nil ?_
        refine Then_normal ?_
        refine wp_ret' ?_
        refine Then_ret ?_
        refine' doneS_ret (res1 rfl rfl) ?_ ?_
        rotate_left 1
        exact ⟨none, 0, by rw [R.mp_bad et hq (by simp) hbad]; try rfl, by rw [R.mp_bad et hq (by simp) hbad]; try rfl⟩
        exact (SubH.rown (SubH.cons 0 rfl (SubH.cons 0 rfl (SubH.nil _))))
      · replace hg26 := of_decide_eq_false hg26
        dsimp only at hg26
        refine ops_ro' rfl (ro_move rfl) rfl ?_
        refine ops_ro' rfl (ro_indexS Tryd.underlying9 rfl rfl rfl (by simp)) rfl ?_
        refine ops_ro' rfl (ro_eql rfl rfl rfl) rfl ?_
        refine ops_split rfl rfl rfl (fun hg30 => ?_) (fun hg30 => ?_)
        · replace hg30 := of_decide_eq_true hg30
          dsimp only at hg30
          refine ops_ro' rfl (ro_move rfl) rfl ?_
          refine ops_ro' rfl (ro_lenS (t' := 0) Tryd.underlying9 rfl) rfl ?_
          refine ops_ro' rfl (ro_eql rfl rfl rfl) rfl ?_
          refine ops_split rfl rfl rfl (fun hg34 => ?_) (fun hg34 => ?_)
          · replace hg34 := of_decide_eq_true hg34
            refine ops_skip' rfl rfl ?_
            refine ops_skip' rfl rfl ?_
            refine ops_skip' rfl rfl ?_
            refine ops_ro' rfl (ro_pick rfl rfl) rfl ?_
            refine ops_ro' rfl (ro_pick rfl rfl) rfl ?_
            refine ops_ro' rfl (ro_pick rfl rfl) rfl ?_
            refine ops_nil ?_
            refine Then_normal ?_
            refine wp_condT rfl ?_
            refine wp_seq' ?_
            have h1 : ∀ h : 1 < (b :: l).length, (b :: l)[1] = l.headD 0 := fun h => by cases l with
              | nil => simp at h
              | cons d t => rfl
            have hbad : badN (b :: l) = true := by
              rw [badN_cons]
              simp only [h1, List.getElem_cons_zero, Bool.or_eq_true, Bool.and_eq_true, decide_eq_true_eq, List.length_cons] at *
              have hlen : (b :: l).length = l.length + 1 := rfl
              omega
            refine wp_region' ?_
            refine ops_ro' rfl (ro_move rfl) rfl ?_
            refine ops_ro' rfl (ro_move rfl) rfl ?_
            refine ops_eff' rfl (eff_call Tryd.call47 rfl rfl (by repeat (first | exact Split.nil _ | apply Split.cons 0 rfl | apply Split.cons 1 rfl | apply Split.cons 2 rfl | apply Split.cons 3 rfl | apply Split.cons 4 rfl | apply Split.cons 5 rfl | apply Split.cons 6 rfl | apply Split.cons 7 rfl | apply Split.cons 8 rfl | apply Split.cons 9 rfl | apply Split.cons 10 rfl | apply Split.cons 11 rfl)) (refuse_spec pr p c q 12 r.pos)) rfl ?_
            rintro _ H' ⟨_, ⟨rfl, rfl⟩, hH⟩
            simp only [List.cons_append, List.nil_append, List.eraseIdx_cons_zero, List.eraseIdx_cons_succ, List.set_cons_zero, List.set_cons_succ] at hH
            subst hH
            refine ops_nil ?_
            refine Then_normal ?_
            refine wp_seq' ?_
            refine wp_region' ?_
            refine ops_ro' rfl (ro_assign rfl) rfl ?_
            refine ops_nil ?_
            refine Then_normal ?_
            refine wp_ret' ?_
            refine Then_ret ?_
            refine' doneS_ret (res1 rfl rfl) ?_ ?_
            rotate_left 1
            exact ⟨none, 0, by rw [R.mp_bad et hq (by simp) hbad]; try rfl, by rw [R.mp_bad et hq (by simp) hbad]; try rfl⟩
            exact (SubH.rown (SubH.cons 0 rfl (SubH.cons 0 rfl (SubH.nil _))))
          · replace hg34 := of_decide_eq_false hg34
            refine ops_ro' rfl (ro_move rfl) rfl ?_
            refine ops_ro' rfl (ro_indexS Tryd.underlying9 rfl rfl rfl (by simp only [List.length_cons] at *; omega)) rfl ?_
            refine ops_ro' rfl (ro_lss rfl rfl rfl) rfl ?_
            refine ops_ro' rfl (ro_pick rfl rfl) rfl ?_
            refine ops_ro' rfl (ro_pick rfl rfl) rfl ?_
            refine ops_ro' rfl (ro_pick rfl rfl) rfl ?_
            refine ops_nil ?_
            refine Then_normal ?_
            refine wp_cond' rfl (fun hc40 => ?_) (fun hc40 => ?_)
            · replace hc40 := of_decide_eq_true hc40
              dsimp only at hc40
              refine wp_seq' ?_
              have h1 : ∀ h : 1 < (b :: l).length, (b :: l)[1] = l.headD 0 := fun h => by cases l with
                | nil => simp at h
                | cons d t => rfl
              have hbad : badN (b :: l) = true := by
                rw [badN_cons]
                simp only [h1, List.getElem_cons_zero, Bool.or_eq_true, Bool.and_eq_true, decide_eq_true_eq, List.length_cons] at *
                have hlen : (b :: l).length = l.length + 1 := rfl
                omega
              refine wp_region' ?_
              refine ops_ro' rfl (ro_move rfl) rfl ?_
              refine ops_ro' rfl (ro_move rfl) rfl ?_
              refine ops_eff' rfl (eff_call Tryd.call47 rfl rfl (by repeat (first | exact Split.nil _ | apply Split.cons 0 rfl | apply Split.cons 1 rfl | apply Split.cons 2 rfl | apply Split.cons 3 rfl | apply Split.cons 4 rfl | apply Split.cons 5 rfl | apply Split.cons 6 rfl | apply Split.cons 7 rfl | apply Split.cons 8 rfl | apply Split.cons 9 rfl | apply Split.cons 10 rfl | apply Split.cons 11 rfl)) (refuse_spec pr p c q 12 r.pos)) rfl ?_
              rintro _ H' ⟨_, ⟨rfl, rfl⟩, hH⟩
              simp only [List.cons_append, List.nil_append, List.eraseIdx_cons_zero, List.eraseIdx_cons_succ, List.set_cons_zero, List.set_cons_succ] at hH
              subst hH
              refine ops_nil ?_
              refine Then_normal ?_
              refine wp_seq' ?_
              refine wp_region' ?_
              refine ops_ro' rfl (ro_assign rfl) rfl ?_
              refine ops_nil ?_
              refine Then_normal ?_
              refine wp_ret' ?_
              refine Then_ret ?_
              refine' doneS_ret (res1 rfl rfl) ?_ ?_
              rotate_left 1
              exact ⟨none, 0, by rw [R.mp_bad et hq (by simp) hbad]; try rfl, by rw [R.mp_bad et hq (by simp) hbad]; try rfl⟩
              exact (SubH.rown (SubH.cons 0 rfl (SubH.cons 0 rfl (SubH.nil _))))
            · replace hc40 := of_decide_eq_false hc40
              dsimp only at hc40
              refine wp_skip' ?_
              refine Then_normal ?_
              refine wp_cutK 1010 (fun Δ LL => ∃ (z : List UInt8), (z = bare (b :: l) ∧ z.length ≤ l.length + 1 ∧ badN (b :: l) = false) ∧ Δ = [(6, .string (str z))] ∧ LL = rd pr p c q) (Has.nil _) ?_ ?_
              · refine wp_seq' ?_
                have h1 : ∀ h : 1 < (b :: l).length, (b :: l)[1] = l.headD 0 := fun h => by cases l with
                  | nil => simp at h
                  | cons d t => rfl
                have hgood : badN (b :: l) = false := by
                  rw [badN_cons]
                  simp only [h1, List.getElem_cons_zero, Bool.or_eq_false_iff, Bool.and_eq_false_iff, decide_eq_false_iff_not, List.length_cons] at *
                  have hlen : (b :: l).length = l.length + 1 := rfl
                  omega
                refine wp_region' ?_
                refine ops_ro' rfl (ro_move rfl) rfl ?_
                refine ops_ro' rfl (ro_indexS Tryd.underlying9 rfl rfl rfl (by simp)) rfl ?_
                refine ops_ro' rfl (ro_eql rfl rfl (decide_eq_true (by omega))) rfl ?_
                refine ops_nil ?_
                refine Then_normal ?_
                refine wp_condT rfl ?_
                refine wp_region' ?_
                refine ops_ro' rfl (ro_move rfl) rfl ?_
                refine ops_ro' rfl (ro_sliceS Tryd.underlying9 rfl (bnd_of rfl rfl) rfl (by simp) (by simp)) rfl ?_
                refine ops_ro' rfl (ro_assign rfl) rfl ?_
                refine ops_nil ?_
                refine Then_normal ?_
                refine over_cut (kept ⟨((b :: l).drop 1).take ((b :: l).length - 1), ⟨by rw [bare_good0 hgood (by have h0 : (b :: l)[0].toNat = b.toNat := rfl; omega)]; simp, by simp, hgood⟩, rfl, rfl⟩ ?_ ?_ ?_)
                · exact (by repeat (first | exact Has.nil _ | refine Has.cons rfl ?_))
                · exact (by repeat (first | exact Has.nil _ | refine Has.cons rfl ?_))
                · exact SubH.refl _
              · rintro Δ LL ⟨z, ⟨hz, hzl, hgood⟩, rfl, rfl⟩
                simp only [List.cons_append, List.nil_append]
                refine wp_seq' ?_
                refine wp_region' ?_
                refine ops_ro' rfl (ro_move rfl) rfl ?_
                refine ops_eff' rfl (eff_toBytesS Tryd.underlying9 Tryd.underlying28 Tryd.underlying5 rfl (by simp only [maxLen]; simp only [List.length_cons] at hln; omega)) rfl ?_
                rintro _ _ ⟨b50, c50, rfl, rfl⟩
                refine ops_ro' rfl (ro_assign rfl) rfl ?_
                refine ops_nil ?_
                refine Then_normal ?_
                refine wp_ret' ?_
                refine' doneS_ret (res1 rfl rfl) ?_ ?_
                rotate_left 1
                exact ⟨_, c50, by rw [R.mp_good et hq (by simp) hgood, ← hz], by rw [R.mp_good et hq (by simp) hgood, ← hz]⟩
                exact SubH.refl _
        · replace hg30 := of_decide_eq_false hg30
          dsimp only at hg30
          refine ops_skip' rfl rfl ?_
          refine ops_skip' rfl rfl ?_
          refine ops_skip' rfl rfl ?_
          refine ops_skip' rfl rfl ?_
          refine ops_skip' rfl rfl ?_
          refine ops_skip' rfl rfl ?_
          refine ops_skip' rfl rfl ?_
          refine ops_skip' rfl rfl ?_
          refine ops_ro' rfl (ro_pick rfl rfl) rfl ?_
          refine ops_ro' rfl (ro_pick rfl rfl) rfl ?_
          refine ops_nil ?_
          refine Then_normal ?_
          refine wp_condF rfl ?_
          refine wp_skip' ?_
          refine Then_normal ?_
          refine wp_cutK 1010 (fun Δ LL => ∃ (z : List UInt8), (z = bare (b :: l) ∧ z.length ≤ l.length + 1 ∧ badN (b :: l) = false) ∧ Δ = [(6, .string (str z))] ∧ LL = rd pr p c q) (Has.nil _) ?_ ?_
          · refine wp_seq' ?_
            have h1 : ∀ h : 1 < (b :: l).length, (b :: l)[1] = l.headD 0 := fun h => by cases l with
              | nil => simp at h
              | cons d t => rfl
            have hgood : badN (b :: l) = false := by
              rw [badN_cons]
              simp only [h1, List.getElem_cons_zero, Bool.or_eq_false_iff, Bool.and_eq_false_iff, decide_eq_false_iff_not, List.length_cons] at *
              have hlen : (b :: l).length = l.length + 1 := rfl
              omega
            refine wp_region' ?_
            refine ops_ro' rfl (ro_move rfl) rfl ?_
            refine ops_ro' rfl (ro_indexS Tryd.underlying9 rfl rfl rfl (by simp)) rfl ?_
            refine ops_ro' rfl (ro_eql rfl rfl (decide_eq_false (by omega))) rfl ?_
            refine ops_nil ?_
            refine Then_normal ?_
            refine wp_condF rfl ?_
            refine wp_skip' ?_
            refine Then_normal ?_
            refine over_cut (kept ⟨b :: l, ⟨(bare_good1 (by have h0 : (b :: l)[0].toNat = b.toNat := rfl; omega)).symm, by simp, hgood⟩, rfl, rfl⟩ ?_ ?_ ?_)
            · exact (by repeat (first | exact Has.nil _ | refine Has.cons rfl ?_))
            · exact (by repeat (first | exact Has.nil _ | refine Has.cons rfl ?_))
            · exact SubH.refl _
          · rintro Δ LL ⟨z, ⟨hz, hzl, hgood⟩, rfl, rfl⟩
            simp only [List.cons_append, List.nil_append]
            refine wp_seq' ?_
            refine wp_region' ?_
            refine ops_ro' rfl (ro_move rfl) rfl ?_
            refine ops_eff' rfl (eff_toBytesS Tryd.underlying9 Tryd.underlying28 Tryd.underlying5 rfl (by simp only [maxLen]; simp only [List.length_cons] at hln; omega)) rfl ?_
            rintro _ _ ⟨b50, c50, rfl, rfl⟩
            refine ops_ro' rfl (ro_assign rfl) rfl ?_
            refine ops_nil ?_
            refine Then_normal ?_
            refine wp_ret' ?_
            refine' doneS_ret (res1 rfl rfl) ?_ ?_
            rotate_left 1
            exact ⟨_, c50, by rw [R.mp_good et hq (by simp) hgood, ← hz], by rw [R.mp_good et hq (by simp) hgood, ← hz]⟩
            exact SubH.refl _

end Go.Proofs.YtbiohhfibkolgaaDoor
