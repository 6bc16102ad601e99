/-
  Parts that came in, opened.
-/
import Derived.Test.YtbiohhfibkolgaaDoorLawD
import Derived.Test.YtbiohhfibkolgaaDoorSxOpen
namespace Go.Proofs.YtbiohhfibkolgaaDoor
open Go.Sx
set_option linter.unusedVariables false
set_option linter.unusedSimpArgs false
set_option maxRecDepth 100000
set_option maxHeartbeats 4000000

structure Pt.Ok (V : HProp) (x : Pt) : Prop where
  k : -9223372036854775808 ≤ x.kind ∧ x.kind ≤ 9223372036854775807
  n : (x.n : Int) ≤ 18446744073709551615
  s : x.s.length ≤ maxLen
  vw : Vw V (.slice x.p x.l.length x.c) x.l.length (x.l.map fun y => Value.string (str y))
  cap : x.l.length ≤ x.c ∧ x.c ≤ maxLen
  all : ∀ y ∈ x.l, y.length ≤ maxLen
theorem flat_str (l : List (List UInt8)) : flat (fun l : List UInt8 => [Value.string (str l)]) l = l.map fun y => Value.string (str y) := by
  induction l with
  | nil => rfl
  | cons x r ih => rw [flat_cons, ih]; rfl

theorem op_pt {W : World} : Opens Tryd.prog W 40 Pt.cs (Pt.Ok (ro W)) := fun H enc fuel cs x h => by
  obtain ⟨e, n, hg⟩ := opens_fields Tryd.underlying40 [1, 1, 1, 1] (by kernel_rfl) h
  obtain ⟨x0, t0⟩ := hg 0 ⟨ "Kind", 3, 0, false, "", "", 0⟩ rfl
  rw [show Tryd.prog.cellsOf 3 = 1 by kernel_rfl] at t0
  obtain ⟨y0, e0, k0⟩ := (opens_i64 Tryd.underlying3) H enc _ _ _ t0
  have z0 : (cs.drop (0)).take 1 = (fun k : Int => [.int .i64 k]) y0 := e0
  obtain ⟨x1, t1⟩ := hg 1 ⟨ "N", 38, 1, false, "", "", 8⟩ rfl
  rw [show Tryd.prog.cellsOf 38 = 1 by kernel_rfl] at t1
  obtain ⟨y1, e1, k1⟩ := (opens_u 18446744073709551615 Tryd.underlying38 rfl rfl) H enc _ _ _ t1
  have z1 : (cs.drop (0 + 1)).take 1 = (fun n : Nat => [.int .u64 (n : Int)]) y1 := e1
  obtain ⟨x2, t2⟩ := hg 2 ⟨ "S", 9, 2, false, "", "", 16⟩ rfl
  rw [show Tryd.prog.cellsOf 9 = 1 by kernel_rfl] at t2
  obtain ⟨y2, e2, k2⟩ := (opens_str Tryd.underlying9) H enc _ _ _ t2
  have z2 : (cs.drop (0 + 1 + 1)).take 1 = (fun l : List UInt8 => [.string (str l)]) y2 := e2
  obtain ⟨x3, t3⟩ := hg 3 ⟨ "L", 30, 3, false, "", "", 32⟩ rfl
  rw [show Tryd.prog.cellsOf 30 = 1 by kernel_rfl] at t3
  obtain ⟨y3, e3, k3⟩ := (opens_slice Tryd.underlying30 1 (fun _ => rfl) (by kernel_rfl) (by decide) (opens_str Tryd.underlying9)) H enc _ _ _ t3
  have z3 : (cs.drop (0 + 1 + 1 + 1)).take 1 = (fun s => [Slv.v s]) y3 := e3
  refine ⟨⟨y0, y1, y2, y3.l, y3.p, y3.c⟩, ?_, ⟨k0, k1, k2, by have := k3.vw; rwa [flat_str] at this, ⟨k3.cap, k3.max⟩, k3.all⟩⟩
  rw [e]; simp only [chunks]
  rw [z0, z1, z2, z3]; rfl
end Go.Proofs.YtbiohhfibkolgaaDoor
