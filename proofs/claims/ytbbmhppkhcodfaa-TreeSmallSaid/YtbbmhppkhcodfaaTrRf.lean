/-
  Law 15's asks that came in, opened.
  TreeBytes: plain parts.
  TreeMoves.
  TreeRefused.
-/
import Derived.Test.YtbbmhppkhcodfaaTrH
import Derived.Test.YtbbmhppkhcodfaaSxOpen
import Derived.Test.YtbbmhppkhcodfaaTrK
import Derived.Test.YtbbmhppkhcodfaaNmQ
import Derived.Test.YtbbmhppkhcodfaaTrSt
import Derived.Test.YtbbmhppkhcodfaaSxFork
namespace Go.Proofs.Ytbbmhppkhcodfaa
open Go.Sx
set_option linter.unusedVariables false
set_option linter.unusedSimpArgs false
set_option maxRecDepth 100000
set_option maxHeartbeats 4000000

theorem At.len (x : At) : x.cs.length = 7 := rfl
structure Av where
  c : Ak
  q : Ap
def Av.cs (x : Av) : List Value := x.c.cs x.q
theorem Av.len (x : Av) : x.cs.length = 15 := rfl
abbrev Av.Ok (V : HProp) (x : Av) : Prop := x.c.Ok V x.q

theorem op_at {W : World} : Opens Try.prog W 40 At.cs (At.Ok) := fun H enc fuel cs x h => by
  obtain ⟨e, n, hg⟩ := opens_fields Try.underlying40 [1, 1, 1, 1, 1, 1, 1] (by kernel_rfl) h
  obtain ⟨x0, t0⟩ := hg 0 ⟨ "Flags", 37, 0, false, "", "", 0⟩ rfl
  rw [show Try.prog.cellsOf 37 = 1 by kernel_rfl] at t0; obtain ⟨y0, e0, k0⟩ := (opens_u 4294967295 Try.underlying37 rfl rfl) H enc _ _ _ t0
  have z0 : (cs.drop (0)).take 1 = (fun n : Nat => [.int .u32 (n : Int)]) y0 := e0
  obtain ⟨x1, t1⟩ := hg 1 ⟨ "Size", 34, 1, false, "", "", 8⟩ rfl
  rw [show Try.prog.cellsOf 34 = 1 by kernel_rfl] at t1; obtain ⟨y1, e1, k1⟩ := (opens_u 18446744073709551615 Try.underlying34 rfl rfl) H enc _ _ _ t1
  have z1 : (cs.drop (0 + 1)).take 1 = (fun n : Nat => [.int .u64 (n : Int)]) y1 := e1
  obtain ⟨x2, t2⟩ := hg 2 ⟨ "Uid", 37, 2, false, "", "", 16⟩ rfl
  rw [show Try.prog.cellsOf 37 = 1 by kernel_rfl] at t2; obtain ⟨y2, e2, k2⟩ := (opens_u 4294967295 Try.underlying37 rfl rfl) H enc _ _ _ t2
  have z2 : (cs.drop (0 + 1 + 1)).take 1 = (fun n : Nat => [.int .u32 (n : Int)]) y2 := e2
  obtain ⟨x3, t3⟩ := hg 3 ⟨ "Gid", 37, 3, false, "", "", 20⟩ rfl
  rw [show Try.prog.cellsOf 37 = 1 by kernel_rfl] at t3; obtain ⟨y3, e3, k3⟩ := (opens_u 4294967295 Try.underlying37 rfl rfl) H enc _ _ _ t3
  have z3 : (cs.drop (0 + 1 + 1 + 1)).take 1 = (fun n : Nat => [.int .u32 (n : Int)]) y3 := e3
  obtain ⟨x4, t4⟩ := hg 4 ⟨ "Mode", 37, 4, false, "", "", 24⟩ rfl
  rw [show Try.prog.cellsOf 37 = 1 by kernel_rfl] at t4; obtain ⟨y4, e4, k4⟩ := (opens_u 4294967295 Try.underlying37 rfl rfl) H enc _ _ _ t4
  have z4 : (cs.drop (0 + 1 + 1 + 1 + 1)).take 1 = (fun n : Nat => [.int .u32 (n : Int)]) y4 := e4
  obtain ⟨x5, t5⟩ := hg 5 ⟨ "Atime", 37, 5, false, "", "", 28⟩ rfl
  rw [show Try.prog.cellsOf 37 = 1 by kernel_rfl] at t5; obtain ⟨y5, e5, k5⟩ := (opens_u 4294967295 Try.underlying37 rfl rfl) H enc _ _ _ t5
  have z5 : (cs.drop (0 + 1 + 1 + 1 + 1 + 1)).take 1 = (fun n : Nat => [.int .u32 (n : Int)]) y5 := e5
  obtain ⟨x6, t6⟩ := hg 6 ⟨ "Mtime", 37, 6, false, "", "", 32⟩ rfl
  rw [show Try.prog.cellsOf 37 = 1 by kernel_rfl] at t6; obtain ⟨y6, e6, k6⟩ := (opens_u 4294967295 Try.underlying37 rfl rfl) H enc _ _ _ t6
  have z6 : (cs.drop (0 + 1 + 1 + 1 + 1 + 1 + 1)).take 1 = (fun n : Nat => [.int .u32 (n : Int)]) y6 := e6
  refine ⟨⟨y0, y1, y2, y3, y4, y5, y6⟩, ?_, ⟨by simp only; omega, by simp only; omega, by simp only; omega, by simp only; omega, by simp only; omega, by simp only; omega, by simp only; omega⟩⟩; rw [e]; simp only [chunks]
  rw [z0, z1, z2, z3, z4, z5, z6]; rfl
theorem op_ak {W : World} : Opens Try.prog W 47 Av.cs (Av.Ok (ro W)) := fun H enc fuel cs x h => by
  obtain ⟨e, n, hg⟩ := opens_fields Try.underlying47 [1, 1, 1, 1, 1, 1, 1, 1, 7] (by kernel_rfl) h
  obtain ⟨x0, t0⟩ := hg 0 ⟨ "Kind", 3, 0, false, "", "", 0⟩ rfl
  rw [show Try.prog.cellsOf 3 = 1 by kernel_rfl] at t0; obtain ⟨y0, e0, k0⟩ := (opens_i64 Try.underlying3) H enc _ _ _ t0
  have z0 : (cs.drop (0)).take 1 = (fun k : Int => [.int .i64 k]) y0 := e0
  obtain ⟨x1, t1⟩ := hg 1 ⟨ "ID", 3, 1, false, "", "", 8⟩ rfl
  rw [show Try.prog.cellsOf 3 = 1 by kernel_rfl] at t1; obtain ⟨y1, e1, k1⟩ := (opens_i64 Try.underlying3) H enc _ _ _ t1
  have z1 : (cs.drop (0 + 1)).take 1 = (fun k : Int => [.int .i64 k]) y1 := e1
  obtain ⟨x2, t2⟩ := hg 2 ⟨ "P", 29, 2, false, "", "", 16⟩ rfl
  rw [show Try.prog.cellsOf 29 = 1 by kernel_rfl] at t2; obtain ⟨y2, e2, k2⟩ := (opens_slice Try.underlying29 1 (fun _ => rfl) (by kernel_rfl) (by decide) (opens_str Try.underlying9)) H enc _ _ _ t2
  have z2 : (cs.drop (0 + 1 + 1)).take 1 = (fun s => [Slv.v s]) y2 := e2
  obtain ⟨x3, t3⟩ := hg 3 ⟨ "To", 29, 3, false, "", "", 40⟩ rfl
  rw [show Try.prog.cellsOf 29 = 1 by kernel_rfl] at t3; obtain ⟨y3, e3, k3⟩ := (opens_slice Try.underlying29 1 (fun _ => rfl) (by kernel_rfl) (by decide) (opens_str Try.underlying9)) H enc _ _ _ t3
  have z3 : (cs.drop (0 + 1 + 1 + 1)).take 1 = (fun s => [Slv.v s]) y3 := e3
  obtain ⟨x4, t4⟩ := hg 4 ⟨ "Dir", 4, 4, false, "", "", 64⟩ rfl
  rw [show Try.prog.cellsOf 4 = 1 by kernel_rfl] at t4; obtain ⟨y4, e4, k4⟩ := (opens_bool Try.underlying4) H enc _ _ _ t4
  have z4 : (cs.drop (0 + 1 + 1 + 1 + 1)).take 1 = (fun b : Bool => [.bool b]) y4 := e4
  obtain ⟨x5, t5⟩ := hg 5 ⟨ "At", 34, 5, false, "", "", 72⟩ rfl
  rw [show Try.prog.cellsOf 34 = 1 by kernel_rfl] at t5; obtain ⟨y5, e5, k5⟩ := (opens_u 18446744073709551615 Try.underlying34 rfl rfl) H enc _ _ _ t5
  have z5 : (cs.drop (0 + 1 + 1 + 1 + 1 + 1)).take 1 = (fun n : Nat => [.int .u64 (n : Int)]) y5 := e5
  obtain ⟨x6, t6⟩ := hg 6 ⟨ "N", 37, 6, false, "", "", 80⟩ rfl
  rw [show Try.prog.cellsOf 37 = 1 by kernel_rfl] at t6; obtain ⟨y6, e6, k6⟩ := (opens_u 4294967295 Try.underlying37 rfl rfl) H enc _ _ _ t6
  have z6 : (cs.drop (0 + 1 + 1 + 1 + 1 + 1 + 1)).take 1 = (fun n : Nat => [.int .u32 (n : Int)]) y6 := e6
  obtain ⟨x7, t7⟩ := hg 7 ⟨ "B", 30, 7, false, "", "", 88⟩ rfl
  rw [show Try.prog.cellsOf 30 = 1 by kernel_rfl] at t7; obtain ⟨y7, e7, k7⟩ := (opens_slice Try.underlying30 1 (fun _ => rfl) (by kernel_rfl) (by decide) (opens_byte Try.underlying5)) H enc _ _ _ t7
  have z7 : (cs.drop (0 + 1 + 1 + 1 + 1 + 1 + 1 + 1)).take 1 = (fun s => [Slv.v s]) y7 := e7
  obtain ⟨x8, t8⟩ := hg 8 ⟨ "A", 40, 8, false, "", "", 112⟩ rfl
  rw [show Try.prog.cellsOf 40 = 7 by kernel_rfl] at t8; obtain ⟨y8, e8, k8⟩ := op_at H enc _ _ _ t8
  have z8 : (cs.drop (0 + 1 + 1 + 1 + 1 + 1 + 1 + 1 + 1)).take 7 = At.cs y8 := e8
  refine ⟨⟨⟨y0, y1, y2.l, y3.l, y4, y5, y6, y7.l, y8⟩, ⟨y2.p, y2.c, y3.p, y3.c, y7.p, y7.c⟩⟩, ?_, ⟨k2.vw, by have h1 := k2.cap; have h2 := k2.max; simp only [maxLen] at h2; simp only; omega, k3.vw, by have h1 := k3.cap; have h2 := k3.max; simp only [maxLen] at h2; simp only; omega, k7.b, k7.cap, by simp only; omega, by simp only; omega, k8⟩⟩; rw [e]; simp only [chunks]
  rw [z0, z1, z2, z3, z4, z5, z6, z7, z8]; rfl
end Go.Proofs.Ytbbmhppkhcodfaa
namespace Go.Proofs.Ytbbmhppkhcodfaa
open Go.Sx
set_option linter.unusedVariables false
set_option linter.unusedSimpArgs false
set_option maxRecDepth 100000
set_option maxHeartbeats 4000000

def Sq.cs (s : Slv UInt8) : List Value := [s.v]
theorem Sq.len (s : Slv UInt8) : (Sq.cs s).length = 1 := rfl
def In.cs (k : Int) : List Value := [.int .i64 k]
theorem In.len (k : Int) : (In.cs k).length = 1 := rfl
/-- the tree has a file of number 1, which holds w, and no other bytes -/
structure F1 (t : Tr) (r : Nd) (w : List UInt8) : Prop where
  wf : Wf t r
  fl : ∃ x, byId t.ns 1 = some x ∧ x.dir = false ∧ x.data = w
  by' : t.bytes = w.length
  le : w.length ≤ 700
/-- what a file holds behind a write -/
def put2 (w : List UInt8) (k : Nat) (y : List UInt8) : List UInt8 := if y.length = 0 then w else wr2 (szd w (max (k + y.length) w.length)) k y
/-- noughts are laid behind -/
def pad (w : List UInt8) (n : Nat) : List UInt8 := w ++ List.replicate (n - w.length) 0
end Go.Proofs.Ytbbmhppkhcodfaa
namespace Go.Proofs.Ytbbmhppkhcodfaa
open Go.Sx
set_option linter.unusedVariables false
set_option linter.unusedSimpArgs false
set_option maxRecDepth 100000
set_option maxHeartbeats 4000000

end Go.Proofs.Ytbbmhppkhcodfaa
namespace Go.Proofs.Ytbbmhppkhcodfaa
open Go.Sx
set_option linter.unusedVariables false
set_option linter.unusedSimpArgs false
set_option maxRecDepth 100000
set_option maxHeartbeats 4000000

theorem ak_at {b : Nat} {x : Ak} {q : Ap} : RdN (own b (.cells (x.cs q).toArray 47 (0, 0))) b (0 + 8) x.a.cs := fun j v hj => by
  refine Rd.own ?_; rw [Nat.zero_add, show x.cs q = [.int .i64 x.k, .int .i64 x.id, .slice q.pp x.p.length q.pc, .slice q.tp x.to.length q.tc, .bool x.dir, .int .u64 (x.at' : Int), .int .u32 (x.n : Int), .slice q.bp x.b.length q.bc] ++ x.a.cs from rfl, List.getElem?_append_right (by simp)]; simpa using hj
end Go.Proofs.Ytbbmhppkhcodfaa
