/-
  Law 16's asks, opened.
  FsmSessions.
  FsmFiles: plain laws.
  FsmLeast.
-/
import Derived.Test.YtlefpllcgcicpaaGreatDoorFsS
import Derived.Test.YtlefpllcgcicpaaGreatDoorSxOpen
import Derived.Test.YtlefpllcgcicpaaGreatDoorFsHo
import Derived.Test.YtlefpllcgcicpaaGreatDoorFsPu
import Derived.Test.YtlefpllcgcicpaaGreatDoorTrH
import Derived.Test.YtlefpllcgcicpaaGreatDoorFsSd
import Derived.Test.YtlefpllcgcicpaaGreatDoorFsP
set_option linter.unusedVariables false
set_option linter.unusedSimpArgs false
namespace Go.Proofs.YtlefpllcgcicpaaGreatDoor
open Go.Sx
set_option maxRecDepth 100000
set_option maxHeartbeats 4000000
/-- a request that came in -/
structure Qr.In (V : HProp) (q : Qr) : Prop where
 off : q.off < 18446744073709551616
 len : q.len < 4294967296
 fl : q.flags < 4294967296
 a : q.a.Ok
 vw : Vw V (.slice q.dp q.data.length q.dc) q.data.length (cel q.data)
 cap : q.data.length ≤ q.dc
structure Aq where
 kind : Int
 ses : Int
 q : Qr
def Aq.cs (x : Aq) : List Value := [.int .i64 x.kind, .int .i64 x.ses] ++ x.q.cs
theorem Aq.len (x : Aq) : x.cs.length = 17 := rfl
structure Aq.Ok (V : HProp) (x : Aq) : Prop where
 q : x.q.In V
theorem aq_rd {V : HProp} {b o i : Nat} {l : List Aq} (h : RdN V b o (flat Aq.cs l)) (hi : i < l.length) : RdN V b (o + i * 17 + 2) l[i].q.cs := fun j v hj => by
 have h1 := RdN.elem h Aq.len (List.getElem?_eq_getElem hi) (2 + j) v (by rw [Aq.cs, List.getElem?_append_right (by simp)]; simpa using hj)
 rw [Nat.add_assoc]; exact h1
theorem op_at {W : World} : Opens Tryz.prog W 30 At.cs (At.Ok) := fun H enc fuel cs x h => by
 obtain ⟨e, n, hg⟩ := opens_fields Tryz.underlying30 [1, 1, 1, 1, 1, 1, 1] (by kernel_rfl) h
 obtain ⟨x0, t0⟩ := hg 0 ⟨ "Flags", 27, 0, false, "", "", 0⟩ rfl
 rw [show Tryz.prog.cellsOf 27 = 1 by kernel_rfl] at t0; obtain ⟨y0, e0, k0⟩ := (opens_u 4294967295 Tryz.underlying27 rfl rfl) H enc _ _ _ t0
 have z0 : (cs.drop (0)).take 1 = (fun n : Nat => [.int .u32 (n : Int)]) y0 := e0
 obtain ⟨x1, t1⟩ := hg 1 ⟨ "Size", 28, 1, false, "", "", 8⟩ rfl
 rw [show Tryz.prog.cellsOf 28 = 1 by kernel_rfl] at t1; obtain ⟨y1, e1, k1⟩ := (opens_u 18446744073709551615 Tryz.underlying28 rfl rfl) H enc _ _ _ t1
 have z1 : (cs.drop (0 + 1)).take 1 = (fun n : Nat => [.int .u64 (n : Int)]) y1 := e1
 obtain ⟨x2, t2⟩ := hg 2 ⟨ "Uid", 27, 2, false, "", "", 16⟩ rfl
 rw [show Tryz.prog.cellsOf 27 = 1 by kernel_rfl] at t2; obtain ⟨y2, e2, k2⟩ := (opens_u 4294967295 Tryz.underlying27 rfl rfl) H enc _ _ _ t2
 have z2 : (cs.drop (0 + 1 + 1)).take 1 = (fun n : Nat => [.int .u32 (n : Int)]) y2 := e2
 obtain ⟨x3, t3⟩ := hg 3 ⟨ "Gid", 27, 3, false, "", "", 20⟩ rfl
 rw [show Tryz.prog.cellsOf 27 = 1 by kernel_rfl] at t3; obtain ⟨y3, e3, k3⟩ := (opens_u 4294967295 Tryz.underlying27 rfl rfl) H enc _ _ _ t3
 have z3 : (cs.drop (0 + 1 + 1 + 1)).take 1 = (fun n : Nat => [.int .u32 (n : Int)]) y3 := e3
 obtain ⟨x4, t4⟩ := hg 4 ⟨ "Mode", 27, 4, false, "", "", 24⟩ rfl
 rw [show Tryz.prog.cellsOf 27 = 1 by kernel_rfl] at t4; obtain ⟨y4, e4, k4⟩ := (opens_u 4294967295 Tryz.underlying27 rfl rfl) H enc _ _ _ t4
 have z4 : (cs.drop (0 + 1 + 1 + 1 + 1)).take 1 = (fun n : Nat => [.int .u32 (n : Int)]) y4 := e4
 obtain ⟨x5, t5⟩ := hg 5 ⟨ "Atime", 27, 5, false, "", "", 28⟩ rfl
 rw [show Tryz.prog.cellsOf 27 = 1 by kernel_rfl] at t5; obtain ⟨y5, e5, k5⟩ := (opens_u 4294967295 Tryz.underlying27 rfl rfl) H enc _ _ _ t5
 have z5 : (cs.drop (0 + 1 + 1 + 1 + 1 + 1)).take 1 = (fun n : Nat => [.int .u32 (n : Int)]) y5 := e5
 obtain ⟨x6, t6⟩ := hg 6 ⟨ "Mtime", 27, 6, false, "", "", 32⟩ rfl
 rw [show Tryz.prog.cellsOf 27 = 1 by kernel_rfl] at t6; obtain ⟨y6, e6, k6⟩ := (opens_u 4294967295 Tryz.underlying27 rfl rfl) H enc _ _ _ t6
 have z6 : (cs.drop (0 + 1 + 1 + 1 + 1 + 1 + 1)).take 1 = (fun n : Nat => [.int .u32 (n : Int)]) y6 := e6
 refine ⟨⟨y0, y1, y2, y3, y4, y5, y6⟩, ?_, ⟨by simp only; omega, by simp only; omega, by simp only; omega, by simp only; omega, by simp only; omega, by simp only; omega, by simp only; omega⟩⟩; rw [e]; simp only [chunks]
 rw [z0, z1, z2, z3, z4, z5, z6]; rfl
theorem op_qr {W : World} : Opens Tryz.prog W 35 Qr.cs (Qr.In (ro W)) := fun H enc fuel cs x h => by
 obtain ⟨e, n, hg⟩ := opens_fields Tryz.underlying35 [1, 1, 1, 1, 1, 1, 1, 1, 7] (by kernel_rfl) h
 obtain ⟨x0, t0⟩ := hg 0 ⟨ "Kind", 3, 0, false, "", "", 0⟩ rfl
 rw [show Tryz.prog.cellsOf 3 = 1 by kernel_rfl] at t0; obtain ⟨y0, e0, k0⟩ := (opens_i64 Tryz.underlying3) H enc _ _ _ t0
 have z0 : (cs.drop (0)).take 1 = (fun k : Int => [.int .i64 k]) y0 := e0
 obtain ⟨x1, t1⟩ := hg 1 ⟨ "Path", 9, 1, false, "", "", 8⟩ rfl
 rw [show Tryz.prog.cellsOf 9 = 1 by kernel_rfl] at t1; obtain ⟨y1, e1, k1⟩ := (opens_str Tryz.underlying9) H enc _ _ _ t1
 have z1 : (cs.drop (0 + 1)).take 1 = (fun l : List UInt8 => [.string (str l)]) y1 := e1
 obtain ⟨x2, t2⟩ := hg 2 ⟨ "To", 9, 2, false, "", "", 24⟩ rfl
 rw [show Tryz.prog.cellsOf 9 = 1 by kernel_rfl] at t2; obtain ⟨y2, e2, k2⟩ := (opens_str Tryz.underlying9) H enc _ _ _ t2
 have z2 : (cs.drop (0 + 1 + 1)).take 1 = (fun l : List UInt8 => [.string (str l)]) y2 := e2
 obtain ⟨x3, t3⟩ := hg 3 ⟨ "Handle", 9, 3, false, "", "", 40⟩ rfl
 rw [show Tryz.prog.cellsOf 9 = 1 by kernel_rfl] at t3; obtain ⟨y3, e3, k3⟩ := (opens_str Tryz.underlying9) H enc _ _ _ t3
 have z3 : (cs.drop (0 + 1 + 1 + 1)).take 1 = (fun l : List UInt8 => [.string (str l)]) y3 := e3
 obtain ⟨x4, t4⟩ := hg 4 ⟨ "Offset", 28, 4, false, "", "", 56⟩ rfl
 rw [show Tryz.prog.cellsOf 28 = 1 by kernel_rfl] at t4; obtain ⟨y4, e4, k4⟩ := (opens_u 18446744073709551615 Tryz.underlying28 rfl rfl) H enc _ _ _ t4
 have z4 : (cs.drop (0 + 1 + 1 + 1 + 1)).take 1 = (fun n : Nat => [.int .u64 (n : Int)]) y4 := e4
 obtain ⟨x5, t5⟩ := hg 5 ⟨ "Len", 27, 5, false, "", "", 64⟩ rfl
 rw [show Tryz.prog.cellsOf 27 = 1 by kernel_rfl] at t5; obtain ⟨y5, e5, k5⟩ := (opens_u 4294967295 Tryz.underlying27 rfl rfl) H enc _ _ _ t5
 have z5 : (cs.drop (0 + 1 + 1 + 1 + 1 + 1)).take 1 = (fun n : Nat => [.int .u32 (n : Int)]) y5 := e5
 obtain ⟨x6, t6⟩ := hg 6 ⟨ "Data", 25, 6, false, "", "", 72⟩ rfl
 rw [show Tryz.prog.cellsOf 25 = 1 by kernel_rfl] at t6; obtain ⟨y6, e6, k6⟩ := (opens_slice Tryz.underlying25 1 (fun _ => rfl) (by kernel_rfl) (by decide) (opens_byte Tryz.underlying5)) H enc _ _ _ t6
 have z6 : (cs.drop (0 + 1 + 1 + 1 + 1 + 1 + 1)).take 1 = (fun s => [Slv.v s]) y6 := e6
 obtain ⟨x7, t7⟩ := hg 7 ⟨ "Flags", 27, 7, false, "", "", 96⟩ rfl
 rw [show Tryz.prog.cellsOf 27 = 1 by kernel_rfl] at t7; obtain ⟨y7, e7, k7⟩ := (opens_u 4294967295 Tryz.underlying27 rfl rfl) H enc _ _ _ t7
 have z7 : (cs.drop (0 + 1 + 1 + 1 + 1 + 1 + 1 + 1)).take 1 = (fun n : Nat => [.int .u32 (n : Int)]) y7 := e7
 obtain ⟨x8, t8⟩ := hg 8 ⟨ "Attrs", 30, 8, false, "", "", 104⟩ rfl
 rw [show Tryz.prog.cellsOf 30 = 7 by kernel_rfl] at t8; obtain ⟨y8, e8, k8⟩ := op_at H enc _ _ _ t8
 have z8 : (cs.drop (0 + 1 + 1 + 1 + 1 + 1 + 1 + 1 + 1)).take 7 = At.cs y8 := e8
 refine ⟨⟨y0, y1, y2, y3, y4, y5, y6.p, y6.c, y6.l, y7, y8⟩, ?_, ⟨by simp only; omega, by simp only; omega, by simp only; omega, k8, k6.b, k6.cap⟩⟩; rw [e]; simp only [chunks]
 rw [z0, z1, z2, z3, z4, z5, z6, z7, z8]; rfl
theorem op_aq {W : World} : Opens Tryz.prog W 46 Aq.cs (Aq.Ok (ro W)) := fun H enc fuel cs x h => by
 obtain ⟨e, n, hg⟩ := opens_fields Tryz.underlying46 [1, 1, 15] (by kernel_rfl) h
 obtain ⟨x0, t0⟩ := hg 0 ⟨ "Kind", 3, 0, false, "", "", 0⟩ rfl
 rw [show Tryz.prog.cellsOf 3 = 1 by kernel_rfl] at t0; obtain ⟨y0, e0, k0⟩ := (opens_i64 Tryz.underlying3) H enc _ _ _ t0
 have z0 : (cs.drop (0)).take 1 = (fun k : Int => [.int .i64 k]) y0 := e0
 obtain ⟨x1, t1⟩ := hg 1 ⟨ "Session", 3, 1, false, "", "", 8⟩ rfl
 rw [show Tryz.prog.cellsOf 3 = 1 by kernel_rfl] at t1; obtain ⟨y1, e1, k1⟩ := (opens_i64 Tryz.underlying3) H enc _ _ _ t1
 have z1 : (cs.drop (0 + 1)).take 1 = (fun k : Int => [.int .i64 k]) y1 := e1
 obtain ⟨x2, t2⟩ := hg 2 ⟨ "Q", 35, 2, false, "", "", 16⟩ rfl
 rw [show Tryz.prog.cellsOf 35 = 15 by kernel_rfl] at t2; obtain ⟨y2, e2, k2⟩ := op_qr H enc _ _ _ t2
 have z2 : (cs.drop (0 + 1 + 1)).take 15 = Qr.cs y2 := e2
 refine ⟨⟨y0, y1, y2⟩, ?_, ⟨k2⟩⟩; rw [e]; simp only [chunks]
 rw [z0, z1, z2]; rfl
structure Mine (c : Co) : Prop where
 id : c.id = 1
 dir : c.dir = false
 name : c.name = mine
 data : c.data = []
/-- the file holds what was written -/
def MineF (t : Tr) : Prop := ∃ x, byId t.ns 1 = some x ∧ x.dir = false ∧ x.data = mine
theorem small_ok {V : HProp} {q q1 qs : Qr} {p : Option Addr} {c : Nat} {x1 x2 x3 : List UInt8} (h : q.In V) (h1 : q1 = tmQ q p c) (g1 : sm7[q1.path.length % 7]? = some x1) (g2 : sm7[q1.dest.length % 7]? = some x2) (hq : qs = { q1 with path := x1, dest := x2, handle := x3 }) :
 qs.path ∈ sm7 ∧ qs.dest ∈ sm7 ∧ qs.off < 300 ∧ qs.data.length ≤ 100 ∧ qs.a.Ok ∧ (qs.a.f &&& 1 ≠ 0 → qs.a.s < 300) ∧ qs.Ok := by
 have m1 := List.mem_of_getElem? g1
 have m2 := List.mem_of_getElem? g2
 have hsm : ∀ s ∈ sm7, s.length ≤ 7 := by decide
 have hd : qs.data.length ≤ 100 := by rw [hq, h1]; show (q.data.take 100).length ≤ 100; rw [List.length_take]; omega
 have ho : qs.off < 300 := by rw [hq, h1]; exact Nat.mod_lt _ (by decide)
 have ha : qs.a = tmA q.a := by rw [hq, h1]; rfl
 have hf : qs.a.f = q.a.f := by rw [ha]; unfold tmA; split <;> rfl
 have hOk : qs.a.Ok := by
  rw [ha]; unfold tmA
  split
  ·exact ⟨h.a.f, Nat.lt_of_le_of_lt (Nat.mod_le _ _) h.a.s, h.a.u, h.a.g, h.a.m, h.a.a, h.a.t⟩
  ·exact h.a
 have p1 : qs.path = x1 := by rw [hq]
 have p2 : qs.dest = x2 := by rw [hq]
 refine ⟨by rw [p1]; exact m1, by rw [p2]; exact m2, ho, hd, hOk, fun h2 => ?_, ⟨by omega, by rw [hq, h1]; exact h.len, by rw [hq, h1]; exact h.fl, hOk, ?_, ?_, by omega⟩⟩
 ·rw [hf] at h2; rw [ha]; unfold tmA
  rw [if_pos h2]; exact Nat.mod_lt _ (by decide)
 ·rw [p1]; have := hsm _ m1; omega
 ·rw [p2]; have := hsm _ m2; omega
set_option maxHeartbeats 400000
/-- a file is there -/
structure G2 (t : Tr) (r : Nd) (nm w : List UInt8) : Prop where
 wf : Wf t r
 look : lookO (fnd t.ns r [nm]) = (1, 0)
 at' : ∃ x, byId t.ns 1 = some x ∧ x.dir = false ∧ x.data = w
section
variable {t t' : Tr} {r : Nd} {nm w : List UInt8} {hs hs' : List Hd} {s n i : Nat} {q : Qr} {k : Rk}
end
set_option maxHeartbeats 4000000
def In.cs (k : Int) : List Value := [.int .i64 k]
theorem In.len (k : Int) : (In.cs k).length = 1 := rfl
/-- the tree has a directory nm of number 1, and nothing else -/
structure GD (t : Tr) (r : Nd) (nm : List UInt8) : Prop where
 wf : Wf t r
 ns : ∃ x, t.ns = [r, x] ∧ x.id = 1 ∧ x.par = 0 ∧ x.dir = true ∧ x.name = nm ∧ x.kids = []
section
variable {t t' : Tr} {r r' : Nd} {nm : List UInt8} {hs hs' : List Hd} {s n i : Nat} {q : Qr} {k : Rk} {e : Int}
theorem GD.thing (h : GD t r nm) : ∃ x, t.ns = [r, x] ∧ r.blk ≠ x.blk ∧ byId t.ns 1 = some x ∧ fnd t.ns r [nm] = some x ∧ x.id = 1 ∧ x.par = 0 ∧ x.dir = true ∧ x.name = nm ∧ x.kids = [] := by
 obtain ⟨x, hx, h1, h2, h3, h4, h5⟩ := h.ns
 have hb := h.wf.kd.blks
 have hr := h.wf.rid
 have hp := h.wf.rpar
 rw [hx] at hb; simp at hb
 refine ⟨x, hx, hb, ?_, ?_, h1, h2, h3, h4, h5⟩
 ·rw [hx, byId_cons, if_neg (by omega), byId_cons, if_pos (by omega)]
 ·show (match kid t.ns r.id nm with | some y => fnd t.ns y [] | none => none) = _
  rw [hx, kid_cons, if_neg (fun h => by have := h.1; omega), kid_cons, if_pos ⟨by omega, h4⟩]; rfl
theorem GD.look (h : GD t r nm) {p : List UInt8} (hp : pSplit p = ([nm], 0)) : look16 t r p = (1, 0) := by
 obtain ⟨x, hx, hb, hi, hf, h1, _⟩ := h.thing
 unfold look16; rw [hp, if_neg (fun h => h rfl)]
 show lookO (fnd t.ns r [nm]) = _
 rw [hf]; show ((x.id : Int), (0 : Int)) = _; rw [h1]; rfl
theorem GD.list (h : GD t r nm) : listO t.ns (byId t.ns 1) = ([], 0) := by
 obtain ⟨x, hx, hb, hi, hf, h1, h2, h3, h4, h5⟩ := h.thing
 rw [hi]; unfold listO
 dsimp only; rw [if_pos h3, h5]; rfl
end
end Go.Proofs.YtlefpllcgcicpaaGreatDoor
