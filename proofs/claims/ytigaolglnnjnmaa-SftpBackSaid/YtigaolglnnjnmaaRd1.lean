/-
  More of the reader of package wire.
-/
import Derived.Test.YtigaolglnnjnmaaRText
import Derived.Test.YtigaolglnnjnmaaTxt
import Derived.Test.YtigaolglnnjnmaaWire2
namespace Go.Proofs.Ytigaolglnnjnmaa
open Go.Sx
set_option linter.unusedVariables false
set_option linter.unusedSimpArgs false
set_option maxRecDepth 100000
set_option maxHeartbeats 4000000

theorem text_at (pw : Nat) (p : Option Addr) (c : Nat) (l s : List UInt8) (hs : l.length + 4 + s.length ≤ 140737488355328) :
    Tri Try.prog 51 [.pointer (some ⟨pw, 0, none⟩), .string (str s)] (wr pw p c l) (fun r H' => ∃ p' c', r = .tuple #[] ∧ H' = wr pw p' c' (l ++ be s.length 4 ++ s)) := by
  have h := text_run pw p c l (str s) (by rw [str_size]; exact hs)
  rw [str_size] at h; exact h
theorem R.text_len (r : R) (n : Int) : (r.text n).2.length < 4294967296 := by
  have h1 := get_lt r 4
  have h2 := take_len (if (if 0 > n then 0 else n) < ((r.get 4).2 : Int) then (r.get 4).1.refuse 3 r.pos else (r.get 4).1) ((r.get 4).2 : Nat)
  have e : (r.text n).2.length ≤ ((((r.get 4).2 : Nat) : Int)).toNat := h2
  simp only [Nat.reducePow] at h1
  omega
theorem rByte_spec (pr : Nat) (p : Option Addr) (c : Nat) (r : R) (hg : r.Good) : Tri Try.prog 59 [.pointer (some ⟨pr, 0, none⟩)] (rd pr p c r) (fun v H' => v = .int .i64 (r.get 1).2 ∧ H' = rd pr p c (r.get 1).1) := by
  refine tri_of_wpS Try.func59 rfl Try.ntmps59 (by simp) ?_
  refine wp_seq' ?_
  refine wp_region' ?_
  refine ops_ro' rfl (ro_assign rfl) rfl ?_
  refine ops_nil ?_
  refine Then_normal ?_
  refine wp_seq' ?_
  refine wp_region' ?_
  refine ops_ro' rfl (ro_move rfl) rfl ?_
  refine ops_eff' rfl (eff_call Try.call94 rfl rfl (by repeat (first | exact Split.nil _ | apply Split.cons 0 rfl | apply Split.cons 1 rfl | apply Split.cons 2 rfl | apply Split.cons 3 rfl | apply Split.cons 4 rfl | apply Split.cons 5 rfl | apply Split.cons 6 rfl | apply Split.cons 7 rfl | apply Split.cons 8 rfl | apply Split.cons 9 rfl | apply Split.cons 10 rfl | apply Split.cons 11 rfl)) (get_spec pr p c r 1 (by omega) hg.len hg.pos)) rfl ?_
  rintro _ H' ⟨_, ⟨rfl, rfl⟩, hH⟩
  simp only [List.cons_append, List.nil_append, List.eraseIdx_cons_zero, List.eraseIdx_cons_succ, List.set_cons_zero, List.set_cons_succ] at hH
  subst hH
  have hlt := get_lt r 1
  simp only [Nat.reducePow] at hlt
  refine ops_ro' rfl (ro_conv Try.underlying52 Try.underlying3 rfl (wrap_natN (by omega))) rfl ?_
  refine ops_ro' rfl (ro_assign rfl) rfl ?_
  refine ops_nil ?_
  refine Then_normal ?_
  refine wp_ret' ?_
  refine' doneS_ret (res1 rfl rfl) ?_ ?_
  rotate_left 1
  exact ⟨rfl, rfl⟩
  exact SubH.refl _
theorem rBool_spec (pr : Nat) (p : Option Addr) (c : Nat) (r : R) (hg : r.Good) : Tri Try.prog 92 [.pointer (some ⟨pr, 0, none⟩)] (rd pr p c r) (fun v H' => v = .bool (decide (((r.get 1).2 : Int) ≠ 0)) ∧ H' = rd pr p c (r.get 1).1) := by
  refine tri_of_wpS Try.func92 rfl Try.ntmps92 (by simp) ?_
  refine wp_seq' ?_
  refine wp_region' ?_
  refine ops_ro' rfl (ro_assign rfl) rfl ?_
  refine ops_nil ?_
  refine Then_normal ?_
  refine wp_seq' ?_
  refine wp_region' ?_
  refine ops_ro' rfl (ro_move rfl) rfl ?_
  refine ops_eff' rfl (eff_call Try.call94 rfl rfl (by repeat (first | exact Split.nil _ | apply Split.cons 0 rfl | apply Split.cons 1 rfl | apply Split.cons 2 rfl | apply Split.cons 3 rfl | apply Split.cons 4 rfl | apply Split.cons 5 rfl | apply Split.cons 6 rfl | apply Split.cons 7 rfl | apply Split.cons 8 rfl | apply Split.cons 9 rfl | apply Split.cons 10 rfl | apply Split.cons 11 rfl)) (get_spec pr p c r 1 (by omega) hg.len hg.pos)) rfl ?_
  rintro _ H' ⟨_, ⟨rfl, rfl⟩, hH⟩
  simp only [List.cons_append, List.nil_append, List.eraseIdx_cons_zero, List.eraseIdx_cons_succ, List.set_cons_zero, List.set_cons_succ] at hH
  subst hH
  refine ops_ro' rfl (ro_neq rfl rfl rfl) rfl ?_
  refine ops_ro' rfl (ro_assign rfl) rfl ?_
  refine ops_nil ?_
  refine Then_normal ?_
  refine wp_ret' ?_
  refine' doneS_ret (res1 rfl rfl) ?_ ?_
  rotate_left 1
  exact ⟨rfl, rfl⟩
  exact SubH.refl _
/-- a number that is written wrongly -/
def badN : List UInt8 → Bool
  | [] => false
  | [b] => decide (128 ≤ b.toNat) || decide (b.toNat = 0)
  | b :: d :: _ => decide (128 ≤ b.toNat) || (decide (b.toNat = 0) && decide (d.toNat < 128))
def R.mp (r : R) (most : Int) : R × List UInt8 := if (r.text most).1.why ≠ 0 ∨ (r.text most).2 = [] then ((r.text most).1, []) else if badN (r.text most).2 = true then ((r.text most).1.refuse 12 r.pos, []) else ((r.text most).1, bare (r.text most).2)
theorem R.mp_no {r q : R} {most : Int} {s : List UInt8} (e : r.text most = (q, s)) (h : q.why ≠ 0 ∨ s = []) : r.mp most = (q, []) := by unfold R.mp; rw [e]; simp only; rw [if_pos h]
theorem R.mp_bad {r q : R} {most : Int} {s : List UInt8} (e : r.text most = (q, s)) (h : q.why = 0) (h1 : s ≠ []) (hb : badN s = true) : r.mp most = (q.refuse 12 r.pos, []) := by unfold R.mp; rw [e]; simp only; rw [if_neg (by simp [h, h1]), if_pos hb]
theorem R.mp_good {r q : R} {most : Int} {s : List UInt8} (e : r.text most = (q, s)) (h : q.why = 0) (h1 : s ≠ []) (hb : badN s = false) : r.mp most = (q, bare s) := by unfold R.mp; rw [e]; simp only; rw [if_neg (by simp [h, h1]), if_neg (by simp [hb])]
theorem R.good_mp {r : R} (h : r.Good) (n : Int) : (r.mp n).1.Good := by
  unfold R.mp; split
  · exact R.good_text h n
  · split
    · exact R.good_refuse (R.good_text h n) _ _
    · exact R.good_text h n
theorem badN_cons (b : UInt8) (l : List UInt8) : badN (b :: l) = (decide (128 ≤ b.toNat) || (decide (b.toNat = 0) && (decide (l.length = 0) || decide ((l.headD 0).toNat < 128)))) := by
  cases l with
  | nil => simp [badN]
  | cons d t => simp [badN]
theorem bare_good0 {b : UInt8} {l : List UInt8} (hb : badN (b :: l) = false) (h : b.toNat = 0) : bare (b :: l) = l := by
  have h0 : b = 0 := UInt8.toNat_inj.1 h
  subst h0
  rw [badN_cons] at hb
  cases l with
  | nil => simp at hb
  | cons d t =>
    rw [bare_zero]
    refine bare_stop t fun e => ?_
    subst e; simp at hb
theorem bare_good1 {b : UInt8} {l : List UInt8} (h : ¬ b.toNat = 0) : bare (b :: l) = b :: l := bare_stop l fun e => h (by rw [e]; rfl)



end Go.Proofs.Ytigaolglnnjnmaa
