/-
  The reader of package wire: states that are all right; texts.
-/
import Derived.Test.YtbiohhfibkolgaaDoorSxStr
import Derived.Test.YtbiohhfibkolgaaDoorRead
import WalkDev
namespace Go.Proofs.YtbiohhfibkolgaaDoor
open Go.Sx
set_option linter.unusedVariables false
set_option linter.unusedSimpArgs false
set_option maxRecDepth 100000
set_option maxHeartbeats 4000000

structure R.Good (r : R) : Prop where
  len : r.b.length ≤ 140737488355328
  pos : r.pos ≤ r.b.length
theorem R.good_take {r : R} (h : r.Good) (n : Int) : (r.take n).1.Good := ⟨by rw [take_b]; exact h.len, take_pos r n h.pos⟩
theorem R.good_get {r : R} (h : r.Good) (n : Nat) : (r.get n).1.Good := R.good_take h n
theorem R.good_refuse {r : R} (h : r.Good) (w k : Int) : (r.refuse w k).Good := by unfold R.refuse; split; exact ⟨h.len, h.pos⟩; exact h
theorem R.good_fail {r : R} (h : r.Good) (w : Int) : (r.fail w).Good := by unfold R.fail; split; exact h; exact R.good_refuse h _ _
theorem R.good_new (l : List UInt8) (h : l.length ≤ 140737488355328) : (R.new l).Good := ⟨h, Nat.zero_le _⟩
theorem R.good_ite {p : Prop} [Decidable p] {a b : R} (h1 : a.Good) (h2 : b.Good) : (if p then a else b).Good := by split; exact h1; exact h2
/-- a text that is not longer than most -/
def R.text (r : R) (most : Int) : R × List UInt8 :=
  (if (if 0 > most then 0 else most) < ((r.get 4).2 : Int) then (r.get 4).1.refuse 3 r.pos else (r.get 4).1).take ((r.get 4).2 : Nat)
theorem R.good_text {r : R} (h : r.Good) (n : Int) : (r.text n).1.Good := by
  unfold R.text; exact R.good_take (R.good_ite (R.good_refuse (R.good_get h 4) _ _) (R.good_get h 4)) _
theorem take_why0 (r : R) (n : Int) (h : r.why ≠ 0) : (r.take n).1 = r := by unfold R.take; rw [if_pos h]


theorem rText_spec (pr : Nat) (p : Option Addr) (c : Nat) (r : R) (hg : r.Good) (most : Int) (hm : -9223372036854775808 ≤ most ∧ most ≤ 9223372036854775807) :
    Tri Tryd.prog 28 [.pointer (some ⟨pr, 0, none⟩), .int .i64 most] (rd pr p c r) (fun v H' => v = .string (str (r.text most).2) ∧ H' = rd pr p c (r.text most).1) := by
  walk "YtbiohrText"

end Go.Proofs.YtbiohhfibkolgaaDoor
