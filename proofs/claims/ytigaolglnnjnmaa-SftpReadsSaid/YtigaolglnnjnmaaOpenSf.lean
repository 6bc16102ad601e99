/-
  Requests, replies that came in, opened.
-/
import Derived.Test.YtigaolglnnjnmaaSfG
import Derived.Test.YtigaolglnnjnmaaSxOpen
namespace Go.Proofs.Ytigaolglnnjnmaa
open Go.Sx
set_option linter.unusedVariables false
set_option linter.unusedSimpArgs false
set_option maxRecDepth 100000
set_option maxHeartbeats 4000000

theorem At.len (x : At) : x.cs.length = 7 := rfl
structure Rv where
  c : Rc
  p : Option Addr
  n : Nat
def Rv.cs (r : Rv) : List Value := r.c.cs r.p r.n
theorem Rv.len (r : Rv) : r.cs.length = 15 := rfl
structure Rv.Ok (V : HProp) (r : Rv) : Prop where
  ok : r.c.Ok
  vw : Vw V (.slice r.p r.c.da.length r.n) r.c.da.length (cel r.c.da)
  cap : r.c.da.length ≤ r.n
structure Pv where
  c : Pc
  dp : Option Addr
  dn : Nat
  np : Option Addr
  nn : Nat
def Pv.cs (r : Pv) : List Value := r.c.cs r.dp r.dn r.np r.nn
theorem Pv.len (r : Pv) : r.cs.length = 12 := rfl
structure Pv.Ok (V : HProp) (r : Pv) : Prop where
  k : -9223372036854775808 ≤ r.c.k ∧ r.c.k ≤ 9223372036854775807
  s : -9223372036854775808 ≤ r.c.s ∧ r.c.s ≤ 9223372036854775807
  d : Vw V (.slice r.dp r.c.d.length r.dn) r.c.d.length (cel r.c.d)
  dc : r.c.d.length ≤ r.dn
  n : Vw V (.slice r.np r.c.ns.length r.nn) r.c.ns.length (flat Nm.cs r.c.ns)
  nc : r.c.ns.length ≤ r.nn
  nm : r.nn ≤ maxLen
  no : ∀ x ∈ r.c.ns, x.at'.Ok
  at' : r.c.at'.Ok

theorem op_at {W : World} : Opens Try.prog W 54 At.cs (At.Ok) := fun H enc fuel cs x h => by
  obtain ⟨e, n, hg⟩ := opens_fields Try.underlying54 [1, 1, 1, 1, 1, 1, 1] (by kernel_rfl) h
  obtain ⟨x0, t0⟩ := hg 0 ⟨ "Flags", 40, 0, false, "", "", 0⟩ rfl
  rw [show Try.prog.cellsOf 40 = 1 by kernel_rfl] at t0
  obtain ⟨y0, e0, k0⟩ := (opens_u 4294967295 Try.underlying40 rfl rfl) H enc _ _ _ t0
  have z0 : (cs.drop (0)).take 1 = (fun n : Nat => [.int .u32 (n : Int)]) y0 := e0
  obtain ⟨x1, t1⟩ := hg 1 ⟨ "Size", 52, 1, false, "", "", 8⟩ rfl
  rw [show Try.prog.cellsOf 52 = 1 by kernel_rfl] at t1
  obtain ⟨y1, e1, k1⟩ := (opens_u 18446744073709551615 Try.underlying52 rfl rfl) H enc _ _ _ t1
  have z1 : (cs.drop (0 + 1)).take 1 = (fun n : Nat => [.int .u64 (n : Int)]) y1 := e1
  obtain ⟨x2, t2⟩ := hg 2 ⟨ "Uid", 40, 2, false, "", "", 16⟩ rfl
  rw [show Try.prog.cellsOf 40 = 1 by kernel_rfl] at t2
  obtain ⟨y2, e2, k2⟩ := (opens_u 4294967295 Try.underlying40 rfl rfl) H enc _ _ _ t2
  have z2 : (cs.drop (0 + 1 + 1)).take 1 = (fun n : Nat => [.int .u32 (n : Int)]) y2 := e2
  obtain ⟨x3, t3⟩ := hg 3 ⟨ "Gid", 40, 3, false, "", "", 20⟩ rfl
  rw [show Try.prog.cellsOf 40 = 1 by kernel_rfl] at t3
  obtain ⟨y3, e3, k3⟩ := (opens_u 4294967295 Try.underlying40 rfl rfl) H enc _ _ _ t3
  have z3 : (cs.drop (0 + 1 + 1 + 1)).take 1 = (fun n : Nat => [.int .u32 (n : Int)]) y3 := e3
  obtain ⟨x4, t4⟩ := hg 4 ⟨ "Mode", 40, 4, false, "", "", 24⟩ rfl
  rw [show Try.prog.cellsOf 40 = 1 by kernel_rfl] at t4
  obtain ⟨y4, e4, k4⟩ := (opens_u 4294967295 Try.underlying40 rfl rfl) H enc _ _ _ t4
  have z4 : (cs.drop (0 + 1 + 1 + 1 + 1)).take 1 = (fun n : Nat => [.int .u32 (n : Int)]) y4 := e4
  obtain ⟨x5, t5⟩ := hg 5 ⟨ "Atime", 40, 5, false, "", "", 28⟩ rfl
  rw [show Try.prog.cellsOf 40 = 1 by kernel_rfl] at t5
  obtain ⟨y5, e5, k5⟩ := (opens_u 4294967295 Try.underlying40 rfl rfl) H enc _ _ _ t5
  have z5 : (cs.drop (0 + 1 + 1 + 1 + 1 + 1)).take 1 = (fun n : Nat => [.int .u32 (n : Int)]) y5 := e5
  obtain ⟨x6, t6⟩ := hg 6 ⟨ "Mtime", 40, 6, false, "", "", 32⟩ rfl
  rw [show Try.prog.cellsOf 40 = 1 by kernel_rfl] at t6
  obtain ⟨y6, e6, k6⟩ := (opens_u 4294967295 Try.underlying40 rfl rfl) H enc _ _ _ t6
  have z6 : (cs.drop (0 + 1 + 1 + 1 + 1 + 1 + 1)).take 1 = (fun n : Nat => [.int .u32 (n : Int)]) y6 := e6
  refine ⟨⟨y0, y1, y2, y3, y4, y5, y6⟩, ?_, ⟨by simp only; omega, by simp only; omega, by simp only; omega, by simp only; omega, by simp only; omega, by simp only; omega, by simp only; omega⟩⟩
  rw [e]; simp only [chunks]
  rw [z0, z1, z2, z3, z4, z5, z6]; rfl
theorem op_nm {W : World} : Opens Try.prog W 120 Nm.cs (fun x => x.at'.Ok) := fun H enc fuel cs x h => by
  obtain ⟨e, n, hg⟩ := opens_fields Try.underlying120 [1, 7] (by kernel_rfl) h
  obtain ⟨x0, t0⟩ := hg 0 ⟨ "Name", 9, 0, false, "", "", 0⟩ rfl
  rw [show Try.prog.cellsOf 9 = 1 by kernel_rfl] at t0
  obtain ⟨y0, e0, k0⟩ := (opens_str Try.underlying9) H enc _ _ _ t0
  have z0 : (cs.drop (0)).take 1 = (fun l : List UInt8 => [.string (str l)]) y0 := e0
  obtain ⟨x1, t1⟩ := hg 1 ⟨ "Attrs", 54, 1, false, "", "", 16⟩ rfl
  rw [show Try.prog.cellsOf 54 = 7 by kernel_rfl] at t1
  obtain ⟨y1, e1, k1⟩ := op_at H enc _ _ _ t1
  have z1 : (cs.drop (0 + 1)).take 7 = At.cs y1 := e1
  refine ⟨⟨y0, y1⟩, ?_, k1⟩
  rw [e]; simp only [chunks]
  rw [z0, z1]; rfl
theorem op_rq {W : World} : Opens Try.prog W 56 Rv.cs (Rv.Ok (ro W)) := fun H enc fuel cs x h => by
  obtain ⟨e, n, hg⟩ := opens_fields Try.underlying56 [1, 1, 1, 1, 1, 1, 1, 1, 7] (by kernel_rfl) h
  obtain ⟨x0, t0⟩ := hg 0 ⟨ "Kind", 3, 0, false, "", "", 0⟩ rfl
  rw [show Try.prog.cellsOf 3 = 1 by kernel_rfl] at t0
  obtain ⟨y0, e0, k0⟩ := (opens_i64 Try.underlying3) H enc _ _ _ t0
  have z0 : (cs.drop (0)).take 1 = (fun k : Int => [.int .i64 k]) y0 := e0
  obtain ⟨x1, t1⟩ := hg 1 ⟨ "Path", 9, 1, false, "", "", 8⟩ rfl
  rw [show Try.prog.cellsOf 9 = 1 by kernel_rfl] at t1
  obtain ⟨y1, e1, k1⟩ := (opens_str Try.underlying9) H enc _ _ _ t1
  have z1 : (cs.drop (0 + 1)).take 1 = (fun l : List UInt8 => [.string (str l)]) y1 := e1
  obtain ⟨x2, t2⟩ := hg 2 ⟨ "To", 9, 2, false, "", "", 24⟩ rfl
  rw [show Try.prog.cellsOf 9 = 1 by kernel_rfl] at t2
  obtain ⟨y2, e2, k2⟩ := (opens_str Try.underlying9) H enc _ _ _ t2
  have z2 : (cs.drop (0 + 1 + 1)).take 1 = (fun l : List UInt8 => [.string (str l)]) y2 := e2
  obtain ⟨x3, t3⟩ := hg 3 ⟨ "Handle", 9, 3, false, "", "", 40⟩ rfl
  rw [show Try.prog.cellsOf 9 = 1 by kernel_rfl] at t3
  obtain ⟨y3, e3, k3⟩ := (opens_str Try.underlying9) H enc _ _ _ t3
  have z3 : (cs.drop (0 + 1 + 1 + 1)).take 1 = (fun l : List UInt8 => [.string (str l)]) y3 := e3
  obtain ⟨x4, t4⟩ := hg 4 ⟨ "Offset", 52, 4, false, "", "", 56⟩ rfl
  rw [show Try.prog.cellsOf 52 = 1 by kernel_rfl] at t4
  obtain ⟨y4, e4, k4⟩ := (opens_u 18446744073709551615 Try.underlying52 rfl rfl) H enc _ _ _ t4
  have z4 : (cs.drop (0 + 1 + 1 + 1 + 1)).take 1 = (fun n : Nat => [.int .u64 (n : Int)]) y4 := e4
  obtain ⟨x5, t5⟩ := hg 5 ⟨ "Len", 40, 5, false, "", "", 64⟩ rfl
  rw [show Try.prog.cellsOf 40 = 1 by kernel_rfl] at t5
  obtain ⟨y5, e5, k5⟩ := (opens_u 4294967295 Try.underlying40 rfl rfl) H enc _ _ _ t5
  have z5 : (cs.drop (0 + 1 + 1 + 1 + 1 + 1)).take 1 = (fun n : Nat => [.int .u32 (n : Int)]) y5 := e5
  obtain ⟨x6, t6⟩ := hg 6 ⟨ "Data", 32, 6, false, "", "", 72⟩ rfl
  rw [show Try.prog.cellsOf 32 = 1 by kernel_rfl] at t6
  obtain ⟨y6, e6, k6⟩ := (opens_slice Try.underlying32 1 (fun _ => rfl) (by kernel_rfl) (by decide) (opens_byte Try.underlying5)) H enc _ _ _ t6
  have z6 : (cs.drop (0 + 1 + 1 + 1 + 1 + 1 + 1)).take 1 = (fun s => [Slv.v s]) y6 := e6
  obtain ⟨x7, t7⟩ := hg 7 ⟨ "Flags", 40, 7, false, "", "", 96⟩ rfl
  rw [show Try.prog.cellsOf 40 = 1 by kernel_rfl] at t7
  obtain ⟨y7, e7, k7⟩ := (opens_u 4294967295 Try.underlying40 rfl rfl) H enc _ _ _ t7
  have z7 : (cs.drop (0 + 1 + 1 + 1 + 1 + 1 + 1 + 1)).take 1 = (fun n : Nat => [.int .u32 (n : Int)]) y7 := e7
  obtain ⟨x8, t8⟩ := hg 8 ⟨ "Attrs", 54, 8, false, "", "", 104⟩ rfl
  rw [show Try.prog.cellsOf 54 = 7 by kernel_rfl] at t8
  obtain ⟨y8, e8, k8⟩ := op_at H enc _ _ _ t8
  have z8 : (cs.drop (0 + 1 + 1 + 1 + 1 + 1 + 1 + 1 + 1)).take 7 = At.cs y8 := e8
  refine ⟨⟨⟨y0, y1, y2, y3, y4, y5, y6.l, y7, y8⟩, y6.p, y6.c⟩, ?_, ⟨⟨k0, by simp only; omega, by simp only; omega, by simp only; omega, k8⟩, k6.b, k6.cap⟩⟩
  rw [e]; simp only [chunks]
  rw [z0, z1, z2, z3, z4, z5, z6, z7, z8]; rfl
theorem op_rp {W : World} : Opens Try.prog W 66 Pv.cs (Pv.Ok (ro W)) := fun H enc fuel cs x h => by
  obtain ⟨e, n, hg⟩ := opens_fields Try.underlying66 [1, 1, 1, 1, 1, 7] (by kernel_rfl) h
  obtain ⟨x0, t0⟩ := hg 0 ⟨ "Kind", 3, 0, false, "", "", 0⟩ rfl
  rw [show Try.prog.cellsOf 3 = 1 by kernel_rfl] at t0
  obtain ⟨y0, e0, k0⟩ := (opens_i64 Try.underlying3) H enc _ _ _ t0
  have z0 : (cs.drop (0)).take 1 = (fun k : Int => [.int .i64 k]) y0 := e0
  obtain ⟨x1, t1⟩ := hg 1 ⟨ "Status", 3, 1, false, "", "", 8⟩ rfl
  rw [show Try.prog.cellsOf 3 = 1 by kernel_rfl] at t1
  obtain ⟨y1, e1, k1⟩ := (opens_i64 Try.underlying3) H enc _ _ _ t1
  have z1 : (cs.drop (0 + 1)).take 1 = (fun k : Int => [.int .i64 k]) y1 := e1
  obtain ⟨x2, t2⟩ := hg 2 ⟨ "Handle", 9, 2, false, "", "", 16⟩ rfl
  rw [show Try.prog.cellsOf 9 = 1 by kernel_rfl] at t2
  obtain ⟨y2, e2, k2⟩ := (opens_str Try.underlying9) H enc _ _ _ t2
  have z2 : (cs.drop (0 + 1 + 1)).take 1 = (fun l : List UInt8 => [.string (str l)]) y2 := e2
  obtain ⟨x3, t3⟩ := hg 3 ⟨ "Data", 32, 3, false, "", "", 32⟩ rfl
  rw [show Try.prog.cellsOf 32 = 1 by kernel_rfl] at t3
  obtain ⟨y3, e3, k3⟩ := (opens_slice Try.underlying32 1 (fun _ => rfl) (by kernel_rfl) (by decide) (opens_byte Try.underlying5)) H enc _ _ _ t3
  have z3 : (cs.drop (0 + 1 + 1 + 1)).take 1 = (fun s => [Slv.v s]) y3 := e3
  obtain ⟨x4, t4⟩ := hg 4 ⟨ "Names", 64, 4, false, "", "", 56⟩ rfl
  rw [show Try.prog.cellsOf 64 = 1 by kernel_rfl] at t4
  obtain ⟨y4, e4, k4⟩ := (opens_slice Try.underlying64 8 Nm.len (by kernel_rfl) (by decide) op_nm) H enc _ _ _ t4
  have z4 : (cs.drop (0 + 1 + 1 + 1 + 1)).take 1 = (fun s => [Slv.v s]) y4 := e4
  obtain ⟨x5, t5⟩ := hg 5 ⟨ "Attrs", 54, 5, false, "", "", 80⟩ rfl
  rw [show Try.prog.cellsOf 54 = 7 by kernel_rfl] at t5
  obtain ⟨y5, e5, k5⟩ := op_at H enc _ _ _ t5
  have z5 : (cs.drop (0 + 1 + 1 + 1 + 1 + 1)).take 7 = At.cs y5 := e5
  refine ⟨⟨⟨y0, y1, y2, y3.l, y4.l, y5⟩, y3.p, y3.c, y4.p, y4.c⟩, ?_, ⟨k0, k1, k3.b, k3.cap, k4.vw, k4.cap, k4.max, k4.all, k5⟩⟩
  rw [e]; simp only [chunks]
  rw [z0, z1, z2, z3, z4, z5]; rfl
end Go.Proofs.Ytigaolglnnjnmaa
