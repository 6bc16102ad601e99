/-
  Plain laws of readers: what stands there is read; what was read stood there.
-/
import Derived.Test.YtigaolglnnjnmaaRd1
import Derived.Test.YtigaolglnnjnmaaPAttr
namespace Go.Proofs.Ytigaolglnnjnmaa
open Go.Sx
set_option linter.unusedVariables false
set_option linter.unusedSimpArgs false
set_option maxRecDepth 100000
set_option maxHeartbeats 4000000

def R.adv (q : R) (n : Nat) : R := { q with pos := q.pos + n }
/-- nothing was refused, and this is left -/
structure Here (q : R) (l : List UInt8) : Prop where
  why : q.why = 0
  pos : q.pos ≤ q.b.length
  at' : q.b.drop q.pos = l
theorem Here.new (l : List UInt8) : Here (R.new l) l := ⟨rfl, Nat.zero_le _, rfl⟩
theorem Here.len {q : R} {l : List UInt8} (h : Here q l) : q.pos + l.length = q.b.length := by rw [← h.at', List.length_drop]; have := h.pos; omega
theorem Here.adv {q : R} {x l : List UInt8} (h : Here q (x ++ l)) {n : Nat} (hn : n = x.length) : Here (q.adv n) l := ⟨h.why, by
  have := h.len; rw [List.length_append] at this
  show q.pos + n ≤ q.b.length; omega, by
  show q.b.drop (q.pos + n) = l
  rw [← List.drop_drop, h.at', hn, List.drop_left]⟩
/-- x was read between r and q -/
structure Reads (r q : R) (x : List UInt8) : Prop where
  why : r.why = 0
  b : q.b = r.b
  pos : q.pos ≤ r.b.length
  x : r.b.take q.pos = r.b.take r.pos ++ x
theorem Reads.refl {r : R} (h : r.why = 0) (hp : r.pos ≤ r.b.length) : Reads r r [] := ⟨h, rfl, hp, by simp⟩
theorem Reads.trans {r q s : R} {x y : List UInt8} (h1 : Reads r q x) (h2 : Reads q s y) : Reads r s (x ++ y) := ⟨h1.why, h2.b.trans h1.b, by have := h2.pos; rwa [h1.b] at this, by
  have h := h2.x
  rw [h1.b, h1.x, List.append_assoc] at h; exact h⟩
end Go.Proofs.Ytigaolglnnjnmaa
