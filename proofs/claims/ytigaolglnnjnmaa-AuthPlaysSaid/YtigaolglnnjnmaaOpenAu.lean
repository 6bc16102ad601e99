/-
  Users, asks that came in, opened.
-/
import Derived.Test.YtigaolglnnjnmaaAuthG
import Derived.Test.YtigaolglnnjnmaaSxOpen
namespace Go.Proofs.Ytigaolglnnjnmaa
open Go.Sx
set_option linter.unusedVariables false
set_option linter.unusedSimpArgs false
set_option maxRecDepth 100000
set_option maxHeartbeats 4000000
theorem op_us {W : World} : Opens Try.prog W 30 Us.cs (fun _ => True) := fun H enc fuel cs x h => by
  obtain ⟨e, n, hg⟩ := opens_fields Try.underlying30 [1, 1] (by kernel_rfl) h
  obtain ⟨x0, t0⟩ := hg 0 ⟨ "Name", 9, 0, false, "", "", 0⟩ rfl
  rw [show Try.prog.cellsOf 9 = 1 by kernel_rfl] at t0
  obtain ⟨y0, e0, k0⟩ := (opens_str Try.underlying9) H enc _ _ _ t0
  have z0 : (cs.drop (0)).take 1 = (fun l : List UInt8 => [.string (str l)]) y0 := e0
  obtain ⟨x1, t1⟩ := hg 1 ⟨ "Pass", 9, 1, false, "", "", 16⟩ rfl
  rw [show Try.prog.cellsOf 9 = 1 by kernel_rfl] at t1
  obtain ⟨y1, e1, k1⟩ := (opens_str Try.underlying9) H enc _ _ _ t1
  have z1 : (cs.drop (0 + 1)).take 1 = (fun l : List UInt8 => [.string (str l)]) y1 := e1
  refine ⟨⟨y0, y1⟩, ?_, trivial⟩
  rw [e]; simp only [chunks]
  rw [z0, z1]; rfl

structure Ak.Ok (V : HProp) (x : Ak) : Prop where
  vw : Vw V (.slice x.p x.b.length x.c) x.b.length (cel x.b)
  cap : x.b.length ≤ x.c

theorem op_ak {W : World} : Opens Try.prog W 35 Ak.cs (Ak.Ok (ro W)) := fun H enc fuel cs x h => by
  obtain ⟨e, n, hg⟩ := opens_fields Try.underlying35 [1, 1, 1, 1, 1, 1] (by kernel_rfl) h
  obtain ⟨x0, t0⟩ := hg 0 ⟨ "Kind", 3, 0, false, "", "", 0⟩ rfl
  rw [show Try.prog.cellsOf 3 = 1 by kernel_rfl] at t0
  obtain ⟨y0, e0, k0⟩ := (opens_i64 Try.underlying3) H enc _ _ _ t0
  have z0 : (cs.drop (0)).take 1 = (fun k : Int => [.int .i64 k]) y0 := e0
  obtain ⟨x1, t1⟩ := hg 1 ⟨ "N", 3, 1, false, "", "", 8⟩ rfl
  rw [show Try.prog.cellsOf 3 = 1 by kernel_rfl] at t1
  obtain ⟨y1, e1, k1⟩ := (opens_i64 Try.underlying3) H enc _ _ _ t1
  have z1 : (cs.drop (0 + 1)).take 1 = (fun k : Int => [.int .i64 k]) y1 := e1
  obtain ⟨x2, t2⟩ := hg 2 ⟨ "User", 9, 2, false, "", "", 16⟩ rfl
  rw [show Try.prog.cellsOf 9 = 1 by kernel_rfl] at t2
  obtain ⟨y2, e2, k2⟩ := (opens_str Try.underlying9) H enc _ _ _ t2
  have z2 : (cs.drop (0 + 1 + 1)).take 1 = (fun l : List UInt8 => [.string (str l)]) y2 := e2
  obtain ⟨x3, t3⟩ := hg 3 ⟨ "Pass", 9, 3, false, "", "", 32⟩ rfl
  rw [show Try.prog.cellsOf 9 = 1 by kernel_rfl] at t3
  obtain ⟨y3, e3, k3⟩ := (opens_str Try.underlying9) H enc _ _ _ t3
  have z3 : (cs.drop (0 + 1 + 1 + 1)).take 1 = (fun l : List UInt8 => [.string (str l)]) y3 := e3
  obtain ⟨x4, t4⟩ := hg 4 ⟨ "Name", 9, 4, false, "", "", 48⟩ rfl
  rw [show Try.prog.cellsOf 9 = 1 by kernel_rfl] at t4
  obtain ⟨y4, e4, k4⟩ := (opens_str Try.underlying9) H enc _ _ _ t4
  have z4 : (cs.drop (0 + 1 + 1 + 1 + 1)).take 1 = (fun l : List UInt8 => [.string (str l)]) y4 := e4
  obtain ⟨x5, t5⟩ := hg 5 ⟨ "B", 32, 5, false, "", "", 64⟩ rfl
  rw [show Try.prog.cellsOf 32 = 1 by kernel_rfl] at t5
  obtain ⟨y5, e5, k5⟩ := (opens_slice Try.underlying32 1 (fun _ => rfl) (by kernel_rfl) (by decide) (opens_byte Try.underlying5)) H enc _ _ _ t5
  have z5 : (cs.drop (0 + 1 + 1 + 1 + 1 + 1)).take 1 = (fun s => [Slv.v s]) y5 := e5
  refine ⟨⟨y0, y1, y2, y3, y4, y5.l, y5.p, y5.c⟩, ?_, ⟨k5.b, k5.cap⟩⟩
  rw [e]; simp only [chunks]
  rw [z0, z1, z2, z3, z4, z5]; rfl
end Go.Proofs.Ytigaolglnnjnmaa
