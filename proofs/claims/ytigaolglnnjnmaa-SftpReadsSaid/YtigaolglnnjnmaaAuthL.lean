/-
  The reference's gate: readers one byte behind; bye, try.
-/
import Derived.Test.YtigaolglnnjnmaaAuthE
import Derived.Test.YtigaolglnnjnmaaRq1
namespace Go.Proofs.Ytigaolglnnjnmaa
open Go.Sx
set_option linter.unusedVariables false
set_option linter.unusedSimpArgs false
set_option maxRecDepth 100000
set_option maxHeartbeats 4000000

/-- one reader is a byte ahead of the other -/
structure Beh (x : UInt8) (q r : R) : Prop where
  b : q.b = x :: r.b
  pos : q.pos = r.pos + 1
  why : q.why = r.why
theorem Beh.refuse {x : UInt8} {q r : R} (h : Beh x q r) (w p p' : Int) : Beh x (q.refuse w p) (r.refuse w p') := by
  unfold R.refuse
  by_cases h1 : r.why = 0
  · rw [if_pos h1, if_pos (h.why.trans h1)]; exact ⟨h.b, h.pos, rfl⟩
  · rw [if_neg h1, if_neg (by rw [h.why]; exact h1)]; exact h
theorem Beh.take {x : UInt8} {q r : R} (h : Beh x q r) (n : Int) : Beh x (q.take n).1 (r.take n).1 ∧ (q.take n).2 = (r.take n).2 := by
  have hb : q.b.length = r.b.length + 1 := by rw [h.b]; rfl
  unfold R.take
  by_cases h1 : r.why ≠ 0
  · rw [if_pos h1, if_pos (by rw [h.why]; exact h1)]; exact ⟨h, rfl⟩
  · rw [if_neg h1, if_neg (by rw [h.why]; exact h1)]
    by_cases h2 : (r.b.length : Int) - r.pos < n
    · rw [if_pos h2, if_pos (by rw [hb, h.pos]; omega)]; exact ⟨h.refuse _ _ _, rfl⟩
    · rw [if_neg h2, if_neg (by rw [hb, h.pos]; omega)]
      by_cases h3 : n ≤ 0
      · rw [if_pos h3, if_pos h3]; exact ⟨h, rfl⟩
      · rw [if_neg h3, if_neg h3]
        exact ⟨⟨h.b, by show q.pos + n.toNat = r.pos + n.toNat + 1; rw [h.pos]; omega, h.why⟩, by simp only; rw [h.b, h.pos, List.drop_succ_cons]⟩
theorem Beh.get {x : UInt8} {q r : R} (h : Beh x q r) (n : Nat) : Beh x (q.get n).1 (r.get n).1 ∧ (q.get n).2 = (r.get n).2 := ⟨(h.take n).1, by unfold R.get; simp only; rw [(h.take n).2]⟩
theorem Beh.text {x : UInt8} {q r : R} (h : Beh x q r) (n : Int) : Beh x (q.text n).1 (r.text n).1 ∧ (q.text n).2 = (r.text n).2 := by
  have h4 := h.get 4
  unfold R.text
  rw [h4.2]
  refine Beh.take ?_ _
  generalize (if 0 > n then 0 else n) = z
  split
  · exact h4.1.refuse _ _ _
  · exact h4.1
theorem Beh.fin {x : UInt8} {q r : R} (h : Beh x q r) : q.fin.1 = r.fin.1 := by
  have hb : q.b.length = r.b.length + 1 := by rw [h.b]; rfl
  unfold R.fin
  rw [h.why, hb, h.pos]
  by_cases h1 : r.why = 0
  · rw [if_pos h1, if_pos h1]
    by_cases h2 : r.pos < r.b.length
    · rw [if_pos h2, if_pos (by omega)]
    · rw [if_neg h2, if_neg (by omega)]
  · rw [if_neg h1, if_neg h1]
theorem R.first (x : UInt8) (l : List UInt8) : (R.new (x :: l)).get 1 = (⟨x :: l, 1, 0, 0⟩, x.toNat) := by
  unfold R.get R.take R.new
  rw [if_neg (by simp), if_neg (by simp; omega), if_neg (by simp)]
  simp [val]
theorem Beh.one (x : UInt8) (l : List UInt8) : Beh x ⟨x :: l, 1, 0, 0⟩ (R.new l) := ⟨rfl, rfl, rfl⟩
abbrev gr (bw : Nat) (p : Option Addr) (k c : Nat) (g : Gs) : HProp := own bw (.cells #[.slice p k c, .bool g.sv, .bool g.inn, .string (str g.user), .int .i64 (g.tries : Int), .bool g.dead] 89 (0, 0))
theorem qFine (pr : Nat) (p : Option Addr) (c : Nat) (b : List UInt8) (r : R) (hr : r.On b) (hl : b.length ≤ 140737488355328) :
    Tri Try.prog 85 [.pointer (some ⟨pr, 0, none⟩)] [rq pr (.slice p b.length c) r] (fun v H' => v = .bool (decide (r.fin.1 = 0)) ∧ H' = [rq pr (.slice p b.length c) r]) := by
  refine tri_of_wpS Try.func85 rfl Try.ntmps85 (by simp) ?_
  refine wp_seq' ?_
  refine wp_region' ?_
  refine ops_ro' rfl (ro_assign rfl) rfl ?_
  refine ops_nil ?_
  refine Then_normal ?_
  refine wp_seq' ?_
  refine wp_region' ?_
  refine ops_ro' rfl (ro_move rfl) rfl ?_
  refine ops_eff' rfl (eff_call Try.call112 rfl rfl (by repeat (first | exact Split.nil _ | apply Split.cons 0 rfl | apply Split.cons 1 rfl | apply Split.cons 2 rfl | apply Split.cons 3 rfl | apply Split.cons 4 rfl | apply Split.cons 5 rfl | apply Split.cons 6 rfl | apply Split.cons 7 rfl | apply Split.cons 8 rfl | apply Split.cons 9 rfl | apply Split.cons 10 rfl | apply Split.cons 11 rfl)) (qEnd pr p c b r hr hl)) rfl ?_
  rintro _ H' ⟨_, ⟨rfl, rfl⟩, hH⟩
  simp only [List.cons_append, List.nil_append, List.eraseIdx_cons_zero, List.eraseIdx_cons_succ, List.set_cons_zero, List.set_cons_succ] at hH
  subst hH
  refine ops_ro' rfl (ro_move rfl) rfl ?_
  refine ops_ro' rfl (ro_extract rfl rfl) rfl ?_
  refine ops_ro' rfl (ro_extract rfl rfl) rfl ?_
  refine ops_ro' rfl (ro_assign rfl) rfl ?_
  refine ops_ro' rfl (ro_assign rfl) rfl ?_
  refine ops_nil ?_
  refine Then_normal ?_
  refine wp_seq' ?_
  refine wp_region' ?_
  refine ops_ro' rfl (ro_move rfl) rfl ?_
  refine ops_ro' rfl (ro_eql rfl rfl rfl) rfl ?_
  refine ops_ro' rfl (ro_assign rfl) rfl ?_
  refine ops_nil ?_
  refine Then_normal ?_
  refine wp_ret' ?_
  refine' doneS_ret (res1 rfl rfl) ?_ ?_
  rotate_left 1
  exact ⟨rfl, rfl⟩
  exact SubH.refl _


def try1 : List UInt8 := [51, 0, 0, 0, 8, 112, 97, 115, 115, 119, 111, 114, 100]
end Go.Proofs.Ytigaolglnnjnmaa
