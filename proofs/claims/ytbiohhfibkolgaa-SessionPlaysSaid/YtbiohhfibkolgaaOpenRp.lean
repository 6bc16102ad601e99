/-
  Replies, asks that came in, opened.
-/
import Derived.Test.YtbiohhfibkolgaaApart
import Derived.Test.YtbiohhfibkolgaaSxOpen
namespace Go.Proofs.Ytbiohhfibkolgaa
open Go.Sx
set_option linter.unusedVariables false
set_option linter.unusedSimpArgs false
set_option maxRecDepth 100000
set_option maxHeartbeats 4000000

theorem At.len (x : At) : x.cs.length = 7 := rfl
abbrev Nm.Ok (x : Nm) : Prop := x.n.length ≤ maxLen ∧ x.at'.Ok
structure Rp.Ok (V : HProp) (r : Rp) : Prop where
  vw : r.In V
  cap : r.Caps
  h : r.c.h.length ≤ maxLen
  d : r.cd ≤ maxLen
  n : r.cn ≤ maxLen
  k : -9223372036854775808 ≤ r.c.kind ∧ r.c.kind ≤ 9223372036854775807
  s : -9223372036854775808 ≤ r.c.status ∧ r.c.status ≤ 9223372036854775807
  ns : ∀ x ∈ r.c.ns, x.Ok
  at' : r.c.at'.Ok
theorem Rp.len (r : Rp) : r.cs.length = 12 := rfl
structure Aq.Ok (V : HProp) (a : Aq) : Prop where
  c : -9223372036854775808 ≤ a.client ∧ a.client ≤ 9223372036854775807
  s : -9223372036854775808 ≤ a.seq ∧ a.seq ≤ 9223372036854775807
  r : a.r.Ok V

theorem op_at {W : World} : Opens Try.prog W 30 At.cs (At.Ok) := fun H enc fuel cs x h => by
  obtain ⟨e, n, hg⟩ := opens_fields Try.underlying30 [1, 1, 1, 1, 1, 1, 1] (by kernel_rfl) h
  obtain ⟨x0, t0⟩ := hg 0 ⟨ "Flags", 27, 0, false, "", "", 0⟩ rfl
  rw [show Try.prog.cellsOf 27 = 1 by kernel_rfl] at t0
  obtain ⟨y0, e0, k0⟩ := (opens_u 4294967295 Try.underlying27 rfl rfl) H enc _ _ _ t0
  have z0 : (cs.drop (0)).take 1 = (fun n : Nat => [.int .u32 (n : Int)]) y0 := e0
  obtain ⟨x1, t1⟩ := hg 1 ⟨ "Size", 28, 1, false, "", "", 8⟩ rfl
  rw [show Try.prog.cellsOf 28 = 1 by kernel_rfl] at t1
  obtain ⟨y1, e1, k1⟩ := (opens_u 18446744073709551615 Try.underlying28 rfl rfl) H enc _ _ _ t1
  have z1 : (cs.drop (0 + 1)).take 1 = (fun n : Nat => [.int .u64 (n : Int)]) y1 := e1
  obtain ⟨x2, t2⟩ := hg 2 ⟨ "Uid", 27, 2, false, "", "", 16⟩ rfl
  rw [show Try.prog.cellsOf 27 = 1 by kernel_rfl] at t2
  obtain ⟨y2, e2, k2⟩ := (opens_u 4294967295 Try.underlying27 rfl rfl) H enc _ _ _ t2
  have z2 : (cs.drop (0 + 1 + 1)).take 1 = (fun n : Nat => [.int .u32 (n : Int)]) y2 := e2
  obtain ⟨x3, t3⟩ := hg 3 ⟨ "Gid", 27, 3, false, "", "", 20⟩ rfl
  rw [show Try.prog.cellsOf 27 = 1 by kernel_rfl] at t3
  obtain ⟨y3, e3, k3⟩ := (opens_u 4294967295 Try.underlying27 rfl rfl) H enc _ _ _ t3
  have z3 : (cs.drop (0 + 1 + 1 + 1)).take 1 = (fun n : Nat => [.int .u32 (n : Int)]) y3 := e3
  obtain ⟨x4, t4⟩ := hg 4 ⟨ "Mode", 27, 4, false, "", "", 24⟩ rfl
  rw [show Try.prog.cellsOf 27 = 1 by kernel_rfl] at t4
  obtain ⟨y4, e4, k4⟩ := (opens_u 4294967295 Try.underlying27 rfl rfl) H enc _ _ _ t4
  have z4 : (cs.drop (0 + 1 + 1 + 1 + 1)).take 1 = (fun n : Nat => [.int .u32 (n : Int)]) y4 := e4
  obtain ⟨x5, t5⟩ := hg 5 ⟨ "Atime", 27, 5, false, "", "", 28⟩ rfl
  rw [show Try.prog.cellsOf 27 = 1 by kernel_rfl] at t5
  obtain ⟨y5, e5, k5⟩ := (opens_u 4294967295 Try.underlying27 rfl rfl) H enc _ _ _ t5
  have z5 : (cs.drop (0 + 1 + 1 + 1 + 1 + 1)).take 1 = (fun n : Nat => [.int .u32 (n : Int)]) y5 := e5
  obtain ⟨x6, t6⟩ := hg 6 ⟨ "Mtime", 27, 6, false, "", "", 32⟩ rfl
  rw [show Try.prog.cellsOf 27 = 1 by kernel_rfl] at t6
  obtain ⟨y6, e6, k6⟩ := (opens_u 4294967295 Try.underlying27 rfl rfl) H enc _ _ _ t6
  have z6 : (cs.drop (0 + 1 + 1 + 1 + 1 + 1 + 1)).take 1 = (fun n : Nat => [.int .u32 (n : Int)]) y6 := e6
  refine ⟨⟨y0, y1, y2, y3, y4, y5, y6⟩, ?_, ⟨by simp only; omega, by simp only; omega, by simp only; omega, by simp only; omega, by simp only; omega, by simp only; omega, by simp only; omega⟩⟩
  rw [e]; simp only [chunks]
  rw [z0, z1, z2, z3, z4, z5, z6]; rfl
theorem op_nm {W : World} : Opens Try.prog W 46 Nm.cs (Nm.Ok) := fun H enc fuel cs x h => by
  obtain ⟨e, n, hg⟩ := opens_fields Try.underlying46 [1, 7] (by kernel_rfl) h
  obtain ⟨x0, t0⟩ := hg 0 ⟨ "Name", 9, 0, false, "", "", 0⟩ rfl
  rw [show Try.prog.cellsOf 9 = 1 by kernel_rfl] at t0
  obtain ⟨y0, e0, k0⟩ := (opens_str Try.underlying9) H enc _ _ _ t0
  have z0 : (cs.drop (0)).take 1 = (fun l : List UInt8 => [.string (str l)]) y0 := e0
  obtain ⟨x1, t1⟩ := hg 1 ⟨ "Attrs", 30, 1, false, "", "", 16⟩ rfl
  rw [show Try.prog.cellsOf 30 = 7 by kernel_rfl] at t1
  obtain ⟨y1, e1, k1⟩ := op_at H enc _ _ _ t1
  have z1 : (cs.drop (0 + 1)).take 7 = At.cs y1 := e1
  refine ⟨⟨y0, y1⟩, ?_, ⟨k0, k1⟩⟩
  rw [e]; simp only [chunks]
  rw [z0, z1]; rfl
theorem op_rp {W : World} : Opens Try.prog W 32 Rp.cs (Rp.Ok (ro W)) := fun H enc fuel cs x h => by
  obtain ⟨e, n, hg⟩ := opens_fields Try.underlying32 [1, 1, 1, 1, 1, 7] (by kernel_rfl) h
  obtain ⟨x0, t0⟩ := hg 0 ⟨ "Kind", 3, 0, false, "", "", 0⟩ rfl
  rw [show Try.prog.cellsOf 3 = 1 by kernel_rfl] at t0
  obtain ⟨y0, e0, k0⟩ := (opens_i64 Try.underlying3) H enc _ _ _ t0
  have z0 : (cs.drop (0)).take 1 = (fun k : Int => [.int .i64 k]) y0 := e0
  obtain ⟨x1, t1⟩ := hg 1 ⟨ "Status", 3, 1, false, "", "", 8⟩ rfl
  rw [show Try.prog.cellsOf 3 = 1 by kernel_rfl] at t1
  obtain ⟨y1, e1, k1⟩ := (opens_i64 Try.underlying3) H enc _ _ _ t1
  have z1 : (cs.drop (0 + 1)).take 1 = (fun k : Int => [.int .i64 k]) y1 := e1
  obtain ⟨x2, t2⟩ := hg 2 ⟨ "Handle", 9, 2, false, "", "", 16⟩ rfl
  rw [show Try.prog.cellsOf 9 = 1 by kernel_rfl] at t2
  obtain ⟨y2, e2, k2⟩ := (opens_str Try.underlying9) H enc _ _ _ t2
  have z2 : (cs.drop (0 + 1 + 1)).take 1 = (fun l : List UInt8 => [.string (str l)]) y2 := e2
  obtain ⟨x3, t3⟩ := hg 3 ⟨ "Data", 25, 3, false, "", "", 32⟩ rfl
  rw [show Try.prog.cellsOf 25 = 1 by kernel_rfl] at t3
  obtain ⟨y3, e3, k3⟩ := (opens_slice Try.underlying25 1 (fun _ => rfl) (by kernel_rfl) (by decide) (opens_byte Try.underlying5)) H enc _ _ _ t3
  have z3 : (cs.drop (0 + 1 + 1 + 1)).take 1 = (fun s => [Slv.v s]) y3 := e3
  obtain ⟨x4, t4⟩ := hg 4 ⟨ "Names", 26, 4, false, "", "", 56⟩ rfl
  rw [show Try.prog.cellsOf 26 = 1 by kernel_rfl] at t4
  obtain ⟨y4, e4, k4⟩ := (opens_slice Try.underlying26 8 Nm.len (by kernel_rfl) (by decide) op_nm) H enc _ _ _ t4
  have z4 : (cs.drop (0 + 1 + 1 + 1 + 1)).take 1 = (fun s => [Slv.v s]) y4 := e4
  obtain ⟨x5, t5⟩ := hg 5 ⟨ "Attrs", 30, 5, false, "", "", 80⟩ rfl
  rw [show Try.prog.cellsOf 30 = 7 by kernel_rfl] at t5
  obtain ⟨y5, e5, k5⟩ := op_at H enc _ _ _ t5
  have z5 : (cs.drop (0 + 1 + 1 + 1 + 1 + 1)).take 7 = At.cs y5 := e5
  refine ⟨⟨⟨y0, y1, y2, y3.l, y4.l, y5⟩, y3.p, y3.c, y4.p, y4.c⟩, ?_, ⟨⟨k3.b, k4.vw⟩, ⟨k3.cap, k4.cap⟩, k2, k3.max, k4.max, k0, k1, k4.all, k5⟩⟩
  rw [e]; simp only [chunks]
  rw [z0, z1, z2, z3, z4, z5]; rfl
theorem op_ak {W : World} : Opens Try.prog W 44 Aq.cs (Aq.Ok (ro W)) := fun H enc fuel cs x h => by
  obtain ⟨e, n, hg⟩ := opens_fields Try.underlying44 [1, 1, 1, 12] (by kernel_rfl) h
  obtain ⟨x0, t0⟩ := hg 0 ⟨ "Kind", 3, 0, false, "", "", 0⟩ rfl
  rw [show Try.prog.cellsOf 3 = 1 by kernel_rfl] at t0
  obtain ⟨y0, e0, k0⟩ := (opens_i64 Try.underlying3) H enc _ _ _ t0
  have z0 : (cs.drop (0)).take 1 = (fun k : Int => [.int .i64 k]) y0 := e0
  obtain ⟨x1, t1⟩ := hg 1 ⟨ "Client", 3, 1, false, "", "", 8⟩ rfl
  rw [show Try.prog.cellsOf 3 = 1 by kernel_rfl] at t1
  obtain ⟨y1, e1, k1⟩ := (opens_i64 Try.underlying3) H enc _ _ _ t1
  have z1 : (cs.drop (0 + 1)).take 1 = (fun k : Int => [.int .i64 k]) y1 := e1
  obtain ⟨x2, t2⟩ := hg 2 ⟨ "Seq", 3, 2, false, "", "", 16⟩ rfl
  rw [show Try.prog.cellsOf 3 = 1 by kernel_rfl] at t2
  obtain ⟨y2, e2, k2⟩ := (opens_i64 Try.underlying3) H enc _ _ _ t2
  have z2 : (cs.drop (0 + 1 + 1)).take 1 = (fun k : Int => [.int .i64 k]) y2 := e2
  obtain ⟨x3, t3⟩ := hg 3 ⟨ "R", 32, 3, false, "", "", 24⟩ rfl
  rw [show Try.prog.cellsOf 32 = 12 by kernel_rfl] at t3
  obtain ⟨y3, e3, k3⟩ := op_rp H enc _ _ _ t3
  have z3 : (cs.drop (0 + 1 + 1 + 1)).take 12 = Rp.cs y3 := e3
  refine ⟨⟨y0, y1, y2, y3⟩, ?_, ⟨k1, k2, k3⟩⟩
  rw [e]; simp only [chunks]
  rw [z0, z1, z2, z3]; rfl
end Go.Proofs.Ytbiohhfibkolgaa
