/-
  Law 16's asks, opened.
  FsmSessions.
-/
import Derived.Test.YtlefpllcgcicpaaGreatDoorFsT
import Derived.Test.YtlefpllcgcicpaaGreatDoorSxOpen
import Derived.Test.YtlefpllcgcicpaaGreatDoorFsS
import Derived.Test.YtlefpllcgcicpaaGreatDoorFsR
import Derived.Test.YtlefpllcgcicpaaGreatDoorTrH
namespace Go.Proofs.YtlefpllcgcicpaaGreatDoor
open Go.Sx
set_option linter.unusedVariables false
set_option linter.unusedSimpArgs false
set_option maxRecDepth 100000
set_option maxHeartbeats 4000000

/-- a request that came in -/
structure Qr.In (V : HProp) (q : Qr) : Prop where
  off : q.off < 18446744073709551616
  len : q.len < 4294967296
  fl : q.flags < 4294967296
  a : q.a.Ok
  vw : Vw V (.slice q.dp q.data.length q.dc) q.data.length (cel q.data)
  cap : q.data.length ≤ q.dc
structure Aq where
  kind : Int
  ses : Int
  q : Qr
def Aq.cs (x : Aq) : List Value := [.int .i64 x.kind, .int .i64 x.ses] ++ x.q.cs
theorem Aq.len (x : Aq) : x.cs.length = 17 := rfl
structure Aq.Ok (V : HProp) (x : Aq) : Prop where
  q : x.q.In V
theorem aq_rd {V : HProp} {b o i : Nat} {l : List Aq} (h : RdN V b o (flat Aq.cs l)) (hi : i < l.length) : RdN V b (o + i * 17 + 2) l[i].q.cs := fun j v hj => by
  have h1 := RdN.elem h Aq.len (List.getElem?_eq_getElem hi) (2 + j) v (by rw [Aq.cs, List.getElem?_append_right (by simp)]; simpa using hj)
  rw [Nat.add_assoc]; exact h1

theorem op_at {W : World} : Opens Tryz.prog W 30 At.cs (At.Ok) := fun H enc fuel cs x h => by
  obtain ⟨e, n, hg⟩ := opens_fields Tryz.underlying30 [1, 1, 1, 1, 1, 1, 1] (by kernel_rfl) h
  obtain ⟨x0, t0⟩ := hg 0 ⟨ "Flags", 27, 0, false, "", "", 0⟩ rfl
  rw [show Tryz.prog.cellsOf 27 = 1 by kernel_rfl] at t0
  obtain ⟨y0, e0, k0⟩ := (opens_u 4294967295 Tryz.underlying27 rfl rfl) H enc _ _ _ t0
  have z0 : (cs.drop (0)).take 1 = (fun n : Nat => [.int .u32 (n : Int)]) y0 := e0
  obtain ⟨x1, t1⟩ := hg 1 ⟨ "Size", 28, 1, false, "", "", 8⟩ rfl
  rw [show Tryz.prog.cellsOf 28 = 1 by kernel_rfl] at t1
  obtain ⟨y1, e1, k1⟩ := (opens_u 18446744073709551615 Tryz.underlying28 rfl rfl) H enc _ _ _ t1
  have z1 : (cs.drop (0 + 1)).take 1 = (fun n : Nat => [.int .u64 (n : Int)]) y1 := e1
  obtain ⟨x2, t2⟩ := hg 2 ⟨ "Uid", 27, 2, false, "", "", 16⟩ rfl
  rw [show Tryz.prog.cellsOf 27 = 1 by kernel_rfl] at t2
  obtain ⟨y2, e2, k2⟩ := (opens_u 4294967295 Tryz.underlying27 rfl rfl) H enc _ _ _ t2
  have z2 : (cs.drop (0 + 1 + 1)).take 1 = (fun n : Nat => [.int .u32 (n : Int)]) y2 := e2
  obtain ⟨x3, t3⟩ := hg 3 ⟨ "Gid", 27, 3, false, "", "", 20⟩ rfl
  rw [show Tryz.prog.cellsOf 27 = 1 by kernel_rfl] at t3
  obtain ⟨y3, e3, k3⟩ := (opens_u 4294967295 Tryz.underlying27 rfl rfl) H enc _ _ _ t3
  have z3 : (cs.drop (0 + 1 + 1 + 1)).take 1 = (fun n : Nat => [.int .u32 (n : Int)]) y3 := e3
  obtain ⟨x4, t4⟩ := hg 4 ⟨ "Mode", 27, 4, false, "", "", 24⟩ rfl
  rw [show Tryz.prog.cellsOf 27 = 1 by kernel_rfl] at t4
  obtain ⟨y4, e4, k4⟩ := (opens_u 4294967295 Tryz.underlying27 rfl rfl) H enc _ _ _ t4
  have z4 : (cs.drop (0 + 1 + 1 + 1 + 1)).take 1 = (fun n : Nat => [.int .u32 (n : Int)]) y4 := e4
  obtain ⟨x5, t5⟩ := hg 5 ⟨ "Atime", 27, 5, false, "", "", 28⟩ rfl
  rw [show Tryz.prog.cellsOf 27 = 1 by kernel_rfl] at t5
  obtain ⟨y5, e5, k5⟩ := (opens_u 4294967295 Tryz.underlying27 rfl rfl) H enc _ _ _ t5
  have z5 : (cs.drop (0 + 1 + 1 + 1 + 1 + 1)).take 1 = (fun n : Nat => [.int .u32 (n : Int)]) y5 := e5
  obtain ⟨x6, t6⟩ := hg 6 ⟨ "Mtime", 27, 6, false, "", "", 32⟩ rfl
  rw [show Tryz.prog.cellsOf 27 = 1 by kernel_rfl] at t6
  obtain ⟨y6, e6, k6⟩ := (opens_u 4294967295 Tryz.underlying27 rfl rfl) H enc _ _ _ t6
  have z6 : (cs.drop (0 + 1 + 1 + 1 + 1 + 1 + 1)).take 1 = (fun n : Nat => [.int .u32 (n : Int)]) y6 := e6
  refine ⟨⟨y0, y1, y2, y3, y4, y5, y6⟩, ?_, ⟨by simp only; omega, by simp only; omega, by simp only; omega, by simp only; omega, by simp only; omega, by simp only; omega, by simp only; omega⟩⟩
  rw [e]; simp only [chunks]
  rw [z0, z1, z2, z3, z4, z5, z6]; rfl
theorem op_qr {W : World} : Opens Tryz.prog W 35 Qr.cs (Qr.In (ro W)) := fun H enc fuel cs x h => by
  obtain ⟨e, n, hg⟩ := opens_fields Tryz.underlying35 [1, 1, 1, 1, 1, 1, 1, 1, 7] (by kernel_rfl) h
  obtain ⟨x0, t0⟩ := hg 0 ⟨ "Kind", 3, 0, false, "", "", 0⟩ rfl
  rw [show Tryz.prog.cellsOf 3 = 1 by kernel_rfl] at t0
  obtain ⟨y0, e0, k0⟩ := (opens_i64 Tryz.underlying3) H enc _ _ _ t0
  have z0 : (cs.drop (0)).take 1 = (fun k : Int => [.int .i64 k]) y0 := e0
  obtain ⟨x1, t1⟩ := hg 1 ⟨ "Path", 9, 1, false, "", "", 8⟩ rfl
  rw [show Tryz.prog.cellsOf 9 = 1 by kernel_rfl] at t1
  obtain ⟨y1, e1, k1⟩ := (opens_str Tryz.underlying9) H enc _ _ _ t1
  have z1 : (cs.drop (0 + 1)).take 1 = (fun l : List UInt8 => [.string (str l)]) y1 := e1
  obtain ⟨x2, t2⟩ := hg 2 ⟨ "To", 9, 2, false, "", "", 24⟩ rfl
  rw [show Tryz.prog.cellsOf 9 = 1 by kernel_rfl] at t2
  obtain ⟨y2, e2, k2⟩ := (opens_str Tryz.underlying9) H enc _ _ _ t2
  have z2 : (cs.drop (0 + 1 + 1)).take 1 = (fun l : List UInt8 => [.string (str l)]) y2 := e2
  obtain ⟨x3, t3⟩ := hg 3 ⟨ "Handle", 9, 3, false, "", "", 40⟩ rfl
  rw [show Tryz.prog.cellsOf 9 = 1 by kernel_rfl] at t3
  obtain ⟨y3, e3, k3⟩ := (opens_str Tryz.underlying9) H enc _ _ _ t3
  have z3 : (cs.drop (0 + 1 + 1 + 1)).take 1 = (fun l : List UInt8 => [.string (str l)]) y3 := e3
  obtain ⟨x4, t4⟩ := hg 4 ⟨ "Offset", 28, 4, false, "", "", 56⟩ rfl
  rw [show Tryz.prog.cellsOf 28 = 1 by kernel_rfl] at t4
  obtain ⟨y4, e4, k4⟩ := (opens_u 18446744073709551615 Tryz.underlying28 rfl rfl) H enc _ _ _ t4
  have z4 : (cs.drop (0 + 1 + 1 + 1 + 1)).take 1 = (fun n : Nat => [.int .u64 (n : Int)]) y4 := e4
  obtain ⟨x5, t5⟩ := hg 5 ⟨ "Len", 27, 5, false, "", "", 64⟩ rfl
  rw [show Tryz.prog.cellsOf 27 = 1 by kernel_rfl] at t5
  obtain ⟨y5, e5, k5⟩ := (opens_u 4294967295 Tryz.underlying27 rfl rfl) H enc _ _ _ t5
  have z5 : (cs.drop (0 + 1 + 1 + 1 + 1 + 1)).take 1 = (fun n : Nat => [.int .u32 (n : Int)]) y5 := e5
  obtain ⟨x6, t6⟩ := hg 6 ⟨ "Data", 25, 6, false, "", "", 72⟩ rfl
  rw [show Tryz.prog.cellsOf 25 = 1 by kernel_rfl] at t6
  obtain ⟨y6, e6, k6⟩ := (opens_slice Tryz.underlying25 1 (fun _ => rfl) (by kernel_rfl) (by decide) (opens_byte Tryz.underlying5)) H enc _ _ _ t6
  have z6 : (cs.drop (0 + 1 + 1 + 1 + 1 + 1 + 1)).take 1 = (fun s => [Slv.v s]) y6 := e6
  obtain ⟨x7, t7⟩ := hg 7 ⟨ "Flags", 27, 7, false, "", "", 96⟩ rfl
  rw [show Tryz.prog.cellsOf 27 = 1 by kernel_rfl] at t7
  obtain ⟨y7, e7, k7⟩ := (opens_u 4294967295 Tryz.underlying27 rfl rfl) H enc _ _ _ t7
  have z7 : (cs.drop (0 + 1 + 1 + 1 + 1 + 1 + 1 + 1)).take 1 = (fun n : Nat => [.int .u32 (n : Int)]) y7 := e7
  obtain ⟨x8, t8⟩ := hg 8 ⟨ "Attrs", 30, 8, false, "", "", 104⟩ rfl
  rw [show Tryz.prog.cellsOf 30 = 7 by kernel_rfl] at t8
  obtain ⟨y8, e8, k8⟩ := op_at H enc _ _ _ t8
  have z8 : (cs.drop (0 + 1 + 1 + 1 + 1 + 1 + 1 + 1 + 1)).take 7 = At.cs y8 := e8
  refine ⟨⟨y0, y1, y2, y3, y4, y5, y6.p, y6.c, y6.l, y7, y8⟩, ?_, ⟨by simp only; omega, by simp only; omega, by simp only; omega, k8, k6.b, k6.cap⟩⟩
  rw [e]; simp only [chunks]
  rw [z0, z1, z2, z3, z4, z5, z6, z7, z8]; rfl
theorem op_aq {W : World} : Opens Tryz.prog W 46 Aq.cs (Aq.Ok (ro W)) := fun H enc fuel cs x h => by
  obtain ⟨e, n, hg⟩ := opens_fields Tryz.underlying46 [1, 1, 15] (by kernel_rfl) h
  obtain ⟨x0, t0⟩ := hg 0 ⟨ "Kind", 3, 0, false, "", "", 0⟩ rfl
  rw [show Tryz.prog.cellsOf 3 = 1 by kernel_rfl] at t0
  obtain ⟨y0, e0, k0⟩ := (opens_i64 Tryz.underlying3) H enc _ _ _ t0
  have z0 : (cs.drop (0)).take 1 = (fun k : Int => [.int .i64 k]) y0 := e0
  obtain ⟨x1, t1⟩ := hg 1 ⟨ "Session", 3, 1, false, "", "", 8⟩ rfl
  rw [show Tryz.prog.cellsOf 3 = 1 by kernel_rfl] at t1
  obtain ⟨y1, e1, k1⟩ := (opens_i64 Tryz.underlying3) H enc _ _ _ t1
  have z1 : (cs.drop (0 + 1)).take 1 = (fun k : Int => [.int .i64 k]) y1 := e1
  obtain ⟨x2, t2⟩ := hg 2 ⟨ "Q", 35, 2, false, "", "", 16⟩ rfl
  rw [show Tryz.prog.cellsOf 35 = 15 by kernel_rfl] at t2
  obtain ⟨y2, e2, k2⟩ := op_qr H enc _ _ _ t2
  have z2 : (cs.drop (0 + 1 + 1)).take 15 = Qr.cs y2 := e2
  refine ⟨⟨y0, y1, y2⟩, ?_, ⟨k2⟩⟩
  rw [e]; simp only [chunks]
  rw [z0, z1, z2]; rfl
end Go.Proofs.YtlefpllcgcicpaaGreatDoor
namespace Go.Proofs.YtlefpllcgcicpaaGreatDoor
open Go.Sx
set_option linter.unusedVariables false
set_option linter.unusedSimpArgs false
set_option maxRecDepth 100000
set_option maxHeartbeats 4000000

structure Mine (c : Co) : Prop where
  id : c.id = 1
  dir : c.dir = false
  name : c.name = mine
  data : c.data = []
/-- the file holds what was written -/
def MineF (t : Tr) : Prop := ∃ x, byId t.ns 1 = some x ∧ x.dir = false ∧ x.data = mine
theorem mine_first {t : Tr} {r : Nd} (h : G1 t r mine []) : ∃ c, Kept1 t c ∧ Mine c := by
  obtain ⟨x, hx, h1, _, h3, h4, h5⟩ := h.ns
  exact ⟨x.co, ⟨x, by rw [hx]; simp, rfl⟩, h1, h3, h4, h5⟩
theorem ses_first {hs0 : List Hd} (hH0 : HsOk hs0) (hz : ∀ s i, hdA hs0 s i = Hd.zero) (hH : HsOk (hs0.set (5 * 16 + 0) (⟨true, 1, false, 3, none, 0, []⟩ : Hd))) : Ses (hs0.set (5 * 16 + 0) (⟨true, 1, false, 3, none, 0, []⟩ : Hd)) :=
  ⟨hH, by rw [hdA_set hH0.len (by decide) (by decide) (by decide) (by decide), if_pos ⟨rfl, rfl⟩],
   fun j h1 h2 => by rw [hdA_set hH0.len (by decide) (by decide) h2 (by decide), if_neg (by omega), hz]; rfl,
   fun s j h1 h2 h3 => by rw [hdA_set hH0.len (by decide) (by decide) h2 (by omega), if_neg (by omega), hz] at h3; cases h3⟩
theorem opH_zero {hs : List Hd} {s : Nat} : ∀ {n : Nat}, (∀ j, j < n → (hdA hs s j).used = false) → opH hs s n = []
  | 0, _ => rfl
  | n + 1, h => by rw [opH_no (h n (by omega)), opH_zero fun j hj => h j (by omega)]
theorem opH_one {hs : List Hd} {s : Nat} (h0 : (hdA hs s 0).used = true) : ∀ {n : Nat}, (∀ j, 0 < j → j < n + 1 → (hdA hs s j).used = false) → opH hs s (n + 1) = [hname 0]
  | 0, _ => by rw [opH_yes h0]; rfl
  | n + 1, h => by rw [opH_no (h (n + 1) (by omega) (by omega)), opH_one h0 fun j h1 h2 => h j h1 (by omega)]
theorem ses_open {hs : List Hd} (h : Ses hs) : (opH hs 5 16).length = 1 := by
  rw [opH_one (n := 15) (by rw [h.h0]) fun j h1 h2 => h.no j h1 h2]; rfl
theorem drop_open {hs : List Hd} (h : HsOk hs) {s : Nat} (h16 : s < 16) : (opH (dropH hs s) s 16).length = 0 := by
  rw [opH_zero fun j hj => by rw [hdA_drop h.len h16 hj h16, if_pos rfl]; rfl]; rfl
theorem small_ok {V : HProp} {q q1 qs : Qr} {p : Option Addr} {c : Nat} {x1 x2 x3 : List UInt8} (h : q.In V) (h1 : q1 = tmQ q p c) (g1 : sm7[q1.path.length % 7]? = some x1) (g2 : sm7[q1.dest.length % 7]? = some x2) (hq : qs = { q1 with path := x1, dest := x2, handle := x3 }) :
    qs.path ∈ sm7 ∧ qs.dest ∈ sm7 ∧ qs.off < 300 ∧ qs.data.length ≤ 100 ∧ qs.a.Ok ∧ (qs.a.f &&& 1 ≠ 0 → qs.a.s < 300) ∧ qs.Ok := by
  have m1 := List.mem_of_getElem? g1
  have m2 := List.mem_of_getElem? g2
  have hsm : ∀ s ∈ sm7, s.length ≤ 7 := by decide
  have hd : qs.data.length ≤ 100 := by rw [hq, h1]; show (q.data.take 100).length ≤ 100; rw [List.length_take]; omega
  have ho : qs.off < 300 := by rw [hq, h1]; exact Nat.mod_lt _ (by decide)
  have ha : qs.a = tmA q.a := by rw [hq, h1]; rfl
  have hf : qs.a.f = q.a.f := by rw [ha]; unfold tmA; split <;> rfl
  have hOk : qs.a.Ok := by
    rw [ha]; unfold tmA
    split
    · exact ⟨h.a.f, Nat.lt_of_le_of_lt (Nat.mod_le _ _) h.a.s, h.a.u, h.a.g, h.a.m, h.a.a, h.a.t⟩
    · exact h.a
  have p1 : qs.path = x1 := by rw [hq]
  have p2 : qs.dest = x2 := by rw [hq]
  refine ⟨by rw [p1]; exact m1, by rw [p2]; exact m2, ho, hd, hOk, fun h2 => ?_, ⟨by omega, by rw [hq, h1]; exact h.len, by rw [hq, h1]; exact h.fl, hOk, ?_, ?_, by omega⟩⟩
  · rw [hf] at h2
    rw [ha]; unfold tmA
    rw [if_pos h2]; exact Nat.mod_lt _ (by decide)
  · rw [p1]; have := hsm _ m1; omega
  · rw [p2]; have := hsm _ m2; omega
theorem mine_write {t t' : Tr} {r r' : Nd} {c : Co} {hs hs' : List Hd} {k : Rk} {p : Option Addr} {cc : Nat} (hW : Wf t r) (hC : Mine c) (h : Kept1 t c) (hS : Ses hs) (hb : t.bytes ≤ 100000) (hW' : Wf t' r') (hD : doR t r hs ((5 : Nat) : Int) (qWr [104, 48] p cc [109, 105, 110, 101]) t' hs' k) : hs' = hs ∧ k = Rk.stat 0 ∧ MineF t' := by
  obtain ⟨u, hu, hco⟩ := h
  have hui : u.id = 1 := by have := congrArg Co.id hco; exact this.trans hC.id
  have hud : u.dir = false := by have := congrArg Co.dir hco; exact this.trans hC.dir
  have hudt : u.data = [] := by have := congrArg Co.data hco; exact this.trans hC.data
  have hby : byId t.ns 1 = some u := by have := byId_of hW.ids hu; rwa [hui] at this
  have hfi : findH hs 5 [104, 48] = some 0 := find_zero (by rw [hS.h0])
  have h := do_of_by (s := 5) (by decide) (by unfold byH; simp) hD
  unfold byR at h
  rw [if_neg (by show ¬ (6 : Int) = 3; decide), if_neg (by show ¬ (6 : Int) = 4; decide), if_neg (by show ¬ (6 : Int) = 5; decide), if_pos rfl] at h
  obtain ⟨rfl, h⟩ := h
  have hI : fileI t hs' 5 [104, 48] = some 0 := by
    unfold fileI; rw [hfi]
    dsimp only
    rw [hS.h0, hby, if_pos ⟨rfl, rfl⟩]
  unfold writeR at h
  rw [show (qWr [104, 48] p cc [109, 105, 110, 101]).handle = [104, 48] from rfl, hI] at h
  dsimp only at h
  rw [hS.h0, if_neg (by decide), if_neg (by decide)] at h
  obtain ⟨e, hR, rfl⟩ := h
  rw [if_neg (by decide)] at hR
  have hF : fileO (byId t.ns 1) = (some u, 0) := by rw [hby]; simp [fileO, hud]
  rcases hR with ⟨h6, _, _⟩ | ⟨x, h6, h7⟩
  · rw [hF] at h6; simp at h6
  · rw [hF] at h6
    have e1 : x = u := by have := congrArg Prod.fst h6; simpa using this.symm
    subst e1
    have hs2 : szE t x (max (0 + ([109, 105, 110, 101] : List UInt8).length) x.data.length) = 0 := by unfold szE; rw [hudt, if_neg (by decide), if_neg (by show ¬ 1048576 < t.bytes + 4 - 0; omega)]
    rcases h7 with ⟨h8, _⟩ | ⟨_, h8, _⟩ | ⟨_, _, h9 | ⟨_, h10, b0, h11⟩⟩
    · exact absurd h8 (by decide)
    · exact absurd h8 (by decide)
    · exact absurd hs2 (by rw [h9.1]; exact h9.2.1)
    · subst h10
      refine ⟨rfl, rfl, ?_⟩
      have hm : datF (some ⟨b0, 0, none⟩) (max (0 + 4) x.data.length) (wr2 (szd x.data (max (0 + 4) x.data.length)) 0 [109, 105, 110, 101]) x ∈ t'.ns := by
        rw [h11]; exact List.mem_map.2 ⟨x, hu, if_pos rfl⟩
      have hb2 := byId_of hW'.ids hm
      refine ⟨datF (some ⟨b0, 0, none⟩) (max (0 + 4) x.data.length) (wr2 (szd x.data (max (0 + 4) x.data.length)) 0 [109, 105, 110, 101]) x, ?_, hud, ?_⟩
      · rw [← hb2]; show byId t'.ns 1 = byId t'.ns (x.id : Int); rw [hui]; rfl
      · show wr2 (szd x.data _) 0 _ = _
        rw [hudt]; rfl
theorem mine_read {t t' : Tr} {r : Nd} {hs hs' : List Hd} {k : Rk} (hF : MineF t) (hS : Ses hs) (hD : doR t r hs ((5 : Nat) : Int) (qOn 5 [104, 48] 9) t' hs' k) : t' = t ∧ hs' = hs ∧ k = ⟨3, 0, [], [109, 105, 110, 101], [], At.zero⟩ := by
  obtain ⟨x, hx, hd, hdt⟩ := hF
  have hfi : findH hs 5 [104, 48] = some 0 := find_zero (by rw [hS.h0])
  have h := do_of_by (s := 5) (by decide) (by unfold byH; simp) hD
  unfold byR at h
  rw [if_neg (by decide), if_neg (by decide), if_pos rfl] at h
  obtain ⟨rfl, rfl, rfl⟩ := h
  refine ⟨rfl, rfl, ?_⟩
  have hI : fileI t' hs' 5 [104, 48] = some 0 := by
    unfold fileI; rw [hfi]
    dsimp only
    rw [hS.h0, hx, if_pos ⟨rfl, rfl⟩]
  unfold readK
  rw [show (qOn 5 [104, 48] 9).handle = [104, 48] from rfl, hI]
  dsimp only
  have hr : readO (byId t'.ns 1) 0 9 = (mine, 0) := by
    unfold readO
    rw [hx, show fileO (some x) = (some x, 0) by simp [fileO, hd]]
    show readX x 0 9 = _
    unfold readX
    rw [hdt]; rfl
  rw [hS.h0, if_neg (by decide), hr, if_neg (by rintro (h | h); exact h rfl; exact absurd h (by decide))]
  rfl
theorem fsessions_run (V : HProp) (hP : Ml V) (q : Option Addr) (cq : Nat) (l : List Aq) (hL : Vw V (.slice q l.length cq) l.length (flat Aq.cs l)) (hl : l.length ≤ 9223372036854775807) (hA : ∀ x ∈ l, x.Ok V) : Tri Tryz.prog 5 [.slice q l.length cq] [V] (fun v H' => v = .bool true ∧ H' = [V]) := by
  refine tri_of_wpS Tryz.func5 rfl Tryz.ntmps5 (by simp) ?_
  refine wp_seq' ?_
  refine wp_region' ?_
  refine ops_ro' rfl (ro_assign rfl) rfl ?_
  refine ops_nil ?_
  refine Then_normal ?_
  refine wp_seq' ?_
  refine wp_region' ?_
  refine ops_eff' rfl (eff_call Tryz.call11 rfl rfl (by repeat (first | exact Split.nil _ | apply Split.cons 0 rfl | apply Split.cons 1 rfl | apply Split.cons 2 rfl | apply Split.cons 3 rfl | apply Split.cons 4 rfl | apply Split.cons 5 rfl | apply Split.cons 6 rfl | apply Split.cons 7 rfl | apply Split.cons 8 rfl | apply Split.cons 9 rfl | apply Split.cons 10 rfl | apply Split.cons 11 rfl)) (fnew_spec)) rfl ?_
  rintro _ H' ⟨_, ⟨mb, t, r, rfl, hn1, hn2, hW, rfl⟩, hH⟩
  simp only [List.cons_append, List.nil_append, List.eraseIdx_cons_zero, List.eraseIdx_cons_succ, List.set_cons_zero, List.set_cons_succ] at hH
  subst hH
  obtain ⟨hs0, hhs0⟩ : ∃ z, z = List.replicate 256 Hd.zero := ⟨_, rfl⟩
  rw [← hhs0]
  have hH0 : HsOk hs0 := by rw [hhs0]; exact hs0_ok
  have hz0 : ∀ s i, hdA hs0 s i = Hd.zero := fun s i => by rw [hhs0]; exact hdA_new s i
  obtain ⟨tb, htb⟩ : ∃ z, t.tb = z := ⟨_, rfl⟩
  rw [htb]
  refine ops_ro' rfl (ro_assign rfl) rfl ?_
  refine ops_nil ?_
  refine Then_normal ?_
  refine wp_seq' ?_
  refine wp_seq' ?_
  refine wp_region' ?_
  refine ops_ro' rfl (ro_move rfl) rfl ?_
  refine ops_ro' rfl (ro_ptrEqlNil Tryz.underlying23 rfl rfl rfl) rfl ?_
  refine ops_nil ?_
  refine Then_normal ?_
  refine wp_condF rfl ?_
  refine wp_skip' ?_
  refine Then_normal ?_
  refine wp_cutK 1005 (fun Δ LL => ∃ (t1 : Tr) (r1 : Nd) (c : Co) (b4 : Nat) (dpb4 : Option Addr) (dcb4 : Nat) (npb4 : Option Addr) (ncb4 : Nat), (Wf t1 r1 ∧ t1.tb = tb ∧ t1.next ≤ 10 ∧ Kept1 t1 c ∧ Mine c ∧ t1.bytes = 0 ∧ Ses (hs0.set (5 * 16 + 0) (⟨true, 1, false, 3, none, 0, []⟩ : Hd))) ∧ Δ = [(4, .pointer (some ⟨b4, 0, none⟩))] ∧ LL = [own b4 (.cells (((hdlK 0) : Rk).rep dpb4 dcb4 npb4 ncb4).cs.toArray 32 (0, 0)), oMa mb tb (hs0.set (5 * 16 + 0) (⟨true, 1, false, 3, none, 0, []⟩ : Hd)), tree t1, St ((hs0.set (5 * 16 + 0) (⟨true, 1, false, 3, none, 0, []⟩ : Hd)).map rowN), V]) (Has.cons (k := 0) rfl (Has.cons (k := 3) rfl (Has.nil _))) ?_ ?_
  · refine wp_region' ?_
    refine ops_ro' rfl (ro_move rfl) rfl ?_
    refine ops_ro' rfl (ro_build rfl (bld_struct (cs := (qAt 3 [109, 105, 110, 101] 11).cs) st35 rfl)) rfl ?_
    refine ops_eff' rfl (eff_callM (Pre := [_, _, _]) Tryz.call12 rfl rfl (by repeat (first | exact Split.nil _ | apply Split.cons 0 rfl | apply Split.cons 1 rfl | apply Split.cons 2 rfl | apply Split.cons 3 rfl | apply Split.cons 4 rfl | apply Split.cons 5 rfl | apply Split.cons 6 rfl | apply Split.cons 7 rfl | apply Split.cons 8 rfl | apply Split.cons 9 rfl | apply Split.cons 10 rfl | apply Split.cons 11 rfl)) (do16K hW htb hH0 ((5 : Nat) : Int) (qAt 3 [109, 105, 110, 101] 11) (qAt_ok (by decide) (by decide)) (by first | exact Ml.pick (H := _) 0 rfl hP | exact Ml.pick (H := _) 1 rfl hP | exact Ml.pick (H := _) 2 rfl hP | exact Ml.pick (H := _) 3 rfl hP | exact Ml.pick (H := _) 4 rfl hP | exact Ml.pick (H := _) 5 rfl hP | exact Ml.pick (H := _) 6 rfl hP | exact Ml.pick (H := _) 7 rfl hP | exact Ml.pick (H := _) 8 rfl hP) (by omega) (show Vw _ _ 0 (cel []) from Vw.nil _))) rfl ?_
    rintro _ H' ⟨_, ⟨t9, hs9, k9, dp9, dc9, np9, nc9, rfl, hD9, hW9, htb9, hnx9, hH9, rfl⟩, hH⟩
    simp only [List.cons_append, List.nil_append, List.eraseIdx_cons_zero, List.eraseIdx_cons_succ, List.set_cons_zero, List.set_cons_succ] at hH
    subst hH
    obtain ⟨r9, hG, _, hh, rfl⟩ := run_first (s := 5) hW hn1 hn2 (by decide) rfl (nm := [109, 105, 110, 101]) rfl (by decide) rfl (by decide) (by decide) (by decide) (free_zero (by rw [hz0]; rfl)) hD9
    subst hh
    obtain ⟨c, hKc, hCc⟩ := mine_first hG
    refine ops_eff' rfl (eff_alloc z32) rfl ?_
    rintro _ _ ⟨b4, rfl, rfl⟩
    refine ops_eff0 rfl (eff_storeA 0 ag32 rfl rfl rfl rfl rfl (Nat.le_of_ble_eq_true rfl) (warm_zero _)) rfl ?_
    rintro _ _ rfl
    simp only [List.set_cons_zero, List.set_cons_succ]
    refine ops_nil ?_
    refine Then_normal ?_
    refine over_cut (kept ⟨t9, r9, c, b4, dp9, dc9, np9, nc9, ⟨hG.wf, htb9, by omega, hKc, hCc, hG.bytes, ses_first hH0 hz0 hH9⟩, rfl, rfl⟩ ?_ ?_ ?_)
    · exact (by repeat (first | exact Has.nil _ | refine Has.cons rfl ?_))
    · exact (by repeat (first | exact Has.nil _ | refine Has.cons rfl ?_))
    · exact (SubH.cons 0 rfl (SubH.cons 2 rfl (SubH.cons 2 rfl (SubH.cons 2 rfl (SubH.cons 2 rfl (SubH.nil _))))))
  · rintro Δ LL ⟨t1, r1, c, b4, dpb4, dcb4, npb4, ncb4, ⟨hW1, htb1, hnx1, hK1, hC, hb1, hS1⟩, rfl, rfl⟩
    simp only [List.cons_append, List.nil_append]
    refine wp_seq' ?_
    refine wp_seq' ?_
    refine wp_region' ?_
    refine ops_ro' rfl (ro_assign rfl) rfl ?_
    refine ops_nil ?_
    refine Then_normal ?_
    refine wp_block' ?_
    refine wp_loopK 6 (fun m Δ LL => ∃ (i : Nat) (t1 : Tr) (r1 : Nd) (hs : List Hd), (i + m = l.length ∧ i ≤ 40 ∧ Wf t1 r1 ∧ t1.tb = tb ∧ t1.next ≤ 10 + i ∧ Kept1 t1 c ∧ t1.bytes ≤ 400 * i ∧ Ses hs) ∧ Δ = [(5, .int .i64 (i : Nat))] ∧ LL = [own b4 (.cells (((hdlK 0) : Rk).rep dpb4 dcb4 npb4 ncb4).cs.toArray 32 (0, 0)), oMa mb tb (hs), tree t1, St ((hs).map rowN), V]) (m := l.length) (Has.cons (k := 0) rfl (Has.cons (k := 3) rfl (Has.cons (k := 4) rfl (Has.nil _)))) (kept ⟨0, t1, r1, hs0.set (5 * 16 + 0) (⟨true, 1, false, 3, none, 0, []⟩ : Hd), ⟨by omega, by omega, hW1, htb1, by omega, hK1, by omega, hS1⟩, rfl, rfl⟩ (by repeat (first | exact Has.nil _ | refine Has.cons rfl ?_)) (by repeat (first | exact Has.nil _ | refine Has.cons rfl ?_)) (by repeat (first | exact SubH.nil _ | refine SubH.cons 0 rfl ?_ | refine SubH.cons 1 rfl ?_ | refine SubH.cons 2 rfl ?_ | refine SubH.cons 3 rfl ?_ | refine SubH.cons 4 rfl ?_ | refine SubH.cons 5 rfl ?_ | refine SubH.cons 6 rfl ?_ | refine SubH.cons 7 rfl ?_ | refine SubH.cons 8 rfl ?_ | refine SubH.cons 9 rfl ?_ | refine SubH.cons 10 rfl ?_ | refine SubH.cons 11 rfl ?_ | refine SubH.cons 12 rfl ?_ | refine SubH.cons 13 rfl ?_ | refine SubH.rown ?_))) ?_
    rintro m Δ LL ⟨i, t1, r1, hs, ⟨hm, hi40, hW1, htb1, hnx1, hK1, hb1, hS1⟩, rfl, rfl⟩
    simp only [List.cons_append, List.nil_append]
    refine wp_seq' ?_
    refine wp_seq' ?_
    refine wp_region' ?_
    refine ops_ro' rfl (ro_move rfl) rfl ?_
    refine ops_ro' rfl (ro_move rfl) rfl ?_
    refine ops_ro' rfl (ro_sliceLen Tryz.underlying43 rfl) rfl ?_
    refine ops_ro' rfl (ro_lss rfl rfl rfl) rfl ?_
    refine ops_split rfl rfl rfl (fun hg22 => ?_) (fun hg22 => ?_)
    · replace hg22 := of_decide_eq_true hg22
      have hi : i < l.length := by omega
      refine ops_ro' rfl (ro_move rfl) rfl ?_
      refine ops_ro' rfl (ro_lss rfl rfl rfl) rfl ?_
      refine ops_ro' rfl (ro_pick rfl rfl) rfl ?_
      refine ops_nil ?_
      refine Then_normal ?_
      refine wp_cond' rfl (fun hc25 => ?_) (fun hc25 => ?_)
      · replace hc25 := of_decide_eq_true hc25
        refine wp_skip' ?_
        refine Then_normal ?_
        refine wp_seq' ?_
        refine wp_block' ?_
        refine wp_cutK 1009 (fun Δ LL => ∃ (b6 : Nat) (qs : Qr), (qs.path ∈ sm7 ∧ qs.dest ∈ sm7 ∧ qs.off < 300 ∧ qs.data.length ≤ 100 ∧ qs.a.Ok ∧ (qs.a.f &&& 1 ≠ 0 → qs.a.s < 300) ∧ qs.Ok ∧ Vw V (.slice qs.dp qs.data.length qs.dc) qs.data.length (cel qs.data)) ∧ Δ = [(6, .pointer (some ⟨b6, 0, none⟩))] ∧ LL = [own b6 (.cells qs.cs.toArray 35 (0, 0)), own b4 (.cells (((hdlK 0) : Rk).rep dpb4 dcb4 npb4 ncb4).cs.toArray 32 (0, 0)), oMa mb tb (hs), tree t1, St ((hs).map rowN), V]) (Has.cons (k := 0) rfl (Has.cons (k := 3) rfl (Has.cons (k := 4) rfl (Has.cons (k := 5) rfl (Has.nil _))))) ?_ ?_
        · have hi : i < l.length := by omega
          have hqi := (hA l[i] (List.getElem_mem hi)).q
          refine wp_know (fun w F s => vw_ptr (Vw.pick (H := [_, _, _, _, V]) 4 rfl hL) s (by omega)) ?_
          rintro ⟨b0, o0, rfl⟩
          refine wp_region' ?_
          refine ops_ro' rfl (ro_move rfl) rfl ?_
          refine ops_ro' rfl (ro_move rfl) rfl ?_
          refine ops_ro' rfl (ro_indexSlice sl43 rfl rfl rfl (by omega)) rfl ?_
          refine ops_ro' rfl (ro_fieldAddr fa46_2 rfl) rfl ?_
          refine ops_ro' rfl (ro_loadA ag35 rfl (RdN.of_pick 4 rfl (aq_rd (vw_rdn hL) hi)) rfl) rfl ?_
          refine ops_eff' rfl (eff_call Tryz.call17 rfl rfl (by repeat (first | exact Split.nil _ | apply Split.cons 0 rfl | apply Split.cons 1 rfl | apply Split.cons 2 rfl | apply Split.cons 3 rfl | apply Split.cons 4 rfl | apply Split.cons 5 rfl | apply Split.cons 6 rfl | apply Split.cons 7 rfl | apply Split.cons 8 rfl | apply Split.cons 9 rfl | apply Split.cons 10 rfl | apply Split.cons 11 rfl)) (small_spec V l[i].q hqi.a.f hqi.vw hqi.cap)) rfl ?_
          rintro _ H' ⟨_, ⟨p33, c33, q1, x1, x2, x3, hq1, hg1, hg2, hg3, rfl, hv33, hc33, rfl⟩, hH⟩
          simp only [List.cons_append, List.nil_append, List.eraseIdx_cons_zero, List.eraseIdx_cons_succ, List.set_cons_zero, List.set_cons_succ] at hH
          subst hH
          obtain ⟨qs, hqs⟩ : ∃ z : Qr, z = { q1 with path := x1, dest := x2, handle := x3 } := ⟨_, rfl⟩
          rw [← hqs]
          obtain ⟨hs1, hs2, hs3, hs4, hs5, hs6, hs7⟩ := small_ok hqi hq1 hg1 hg2 hqs
          have hs8 : Vw V (.slice qs.dp qs.data.length qs.dc) qs.data.length (cel qs.data) := by rw [hqs, hq1]; exact hv33
          refine ops_eff' rfl (eff_alloc z35) rfl ?_
          rintro _ _ ⟨b6, rfl, rfl⟩
          refine ops_eff0 rfl (eff_storeA 0 ag35 rfl rfl rfl rfl rfl (Nat.le_of_ble_eq_true rfl) (warm_zero _)) rfl ?_
          rintro _ _ rfl
          simp only [List.set_cons_zero, List.set_cons_succ]
          refine ops_nil ?_
          refine Then_normal ?_
          refine over_cut (kept ⟨b6, qs, ⟨hs1, hs2, hs3, hs4, hs5, hs6, hs7, hs8⟩, rfl, rfl⟩ ?_ ?_ ?_)
          · exact (by repeat (first | exact Has.nil _ | refine Has.cons rfl ?_))
          · exact (by repeat (first | exact Has.nil _ | refine Has.cons rfl ?_))
          · exact (SubH.cons 0 rfl (SubH.cons 1 rfl (SubH.cons 1 rfl (SubH.cons 1 rfl (SubH.cons 1 rfl (SubH.cons 0 rfl (SubH.nil _)))))))
        · rintro Δ LL ⟨b6, qs, ⟨hs1, hs2, hs3, hs4, hs5, hs6, hs7, hs8⟩, rfl, rfl⟩
          simp only [List.cons_append, List.nil_append]
          refine wp_seq' ?_
          have hi : i < l.length := by omega
          refine wp_know (fun w F s => vw_ptr (Vw.pick (H := [_, _, _, _, _, V]) 5 rfl hL) s (by omega)) ?_
          rintro ⟨b0, o0, rfl⟩
          refine wp_region' ?_
          refine ops_ro' rfl (ro_move rfl) rfl ?_
          refine ops_ro' rfl (ro_move rfl) rfl ?_
          refine ops_ro' rfl (ro_indexSlice sl43 rfl rfl rfl (by omega)) rfl ?_
          refine ops_ro' rfl (ro_fieldAddr fa46_1 rfl) rfl ?_
          refine ops_ro' rfl (ro_load sc3 rfl (Rd.pick 5 rfl (Rd.elem (j := 1) (vw_rdn hL) Aq.len (List.getElem?_eq_getElem hi) rfl))) rfl ?_
          refine ops_eff' rfl (eff_call Tryz.call13 rfl rfl (by repeat (first | exact Split.nil _ | apply Split.cons 0 rfl | apply Split.cons 1 rfl | apply Split.cons 2 rfl | apply Split.cons 3 rfl | apply Split.cons 4 rfl | apply Split.cons 5 rfl | apply Split.cons 6 rfl | apply Split.cons 7 rfl | apply Split.cons 8 rfl | apply Split.cons 9 rfl | apply Split.cons 10 rfl | apply Split.cons 11 rfl)) (within_spec l[i].ses 0 4 (by omega) (by omega) (by omega))) rfl ?_
          rintro _ H' ⟨_, ⟨rfl, rfl⟩, hH⟩
          simp only [List.cons_append, List.nil_append, List.eraseIdx_cons_zero, List.eraseIdx_cons_succ, List.set_cons_zero, List.set_cons_succ] at hH
          subst hH
          obtain ⟨k, hk, hk4⟩ : ∃ k : Nat, 0 + l[i].ses % (4 - 0 + 1) = (k : Int) ∧ k ≤ 4 := ⟨(l[i].ses % (4 - 0 + 1)).toNat, by omega, by omega⟩
          rw [hk]
          refine ops_ro' rfl (ro_assign rfl) rfl ?_
          refine ops_nil ?_
          refine Then_normal ?_
          refine wp_seq' ?_
          refine wp_region' ?_
          refine ops_ro' rfl (ro_move rfl) rfl ?_
          refine ops_ro' rfl (ro_move rfl) rfl ?_
          refine ops_ro' rfl (ro_loadA ag35 rfl (RdN.of_pick 0 rfl ((show RdN _ b6 0 qs.cs from rdn_all))) rfl) rfl ?_
          refine ops_eff' rfl (eff_callM (Pre := [_, _, _]) Tryz.call12 rfl rfl (by repeat (first | exact Split.nil _ | apply Split.cons 0 rfl | apply Split.cons 1 rfl | apply Split.cons 2 rfl | apply Split.cons 3 rfl | apply Split.cons 4 rfl | apply Split.cons 5 rfl | apply Split.cons 6 rfl | apply Split.cons 7 rfl | apply Split.cons 8 rfl | apply Split.cons 9 rfl | apply Split.cons 10 rfl | apply Split.cons 11 rfl)) (do16K hW1 htb1 hS1.ok ((k : Nat) : Int) (qs) (hs7) (by first | exact Ml.pick (H := _) 0 rfl hP | exact Ml.pick (H := _) 1 rfl hP | exact Ml.pick (H := _) 2 rfl hP | exact Ml.pick (H := _) 3 rfl hP | exact Ml.pick (H := _) 4 rfl hP | exact Ml.pick (H := _) 5 rfl hP | exact Ml.pick (H := _) 6 rfl hP | exact Ml.pick (H := _) 7 rfl hP | exact Ml.pick (H := _) 8 rfl hP) (by omega) (by first | exact Vw.pick 0 rfl hs8 | exact Vw.pick 1 rfl hs8 | exact Vw.pick 2 rfl hs8 | exact Vw.pick 3 rfl hs8 | exact Vw.pick 4 rfl hs8 | exact Vw.pick 5 rfl hs8 | exact Vw.pick 6 rfl hs8 | exact Vw.pick 7 rfl hs8 | exact Vw.pick 8 rfl hs8))) rfl ?_
          rintro _ H' ⟨_, ⟨t9, hs9, k9, dp9, dc9, np9, nc9, rfl, hD9, hW9, htb9, hnx9, hH9, rfl⟩, hH⟩
          simp only [List.cons_append, List.nil_append, List.eraseIdx_cons_zero, List.eraseIdx_cons_succ, List.set_cons_zero, List.set_cons_succ] at hH
          subst hH
          obtain ⟨hK9, hS9, hb9⟩ := ses_step hW1 hC.id hC.dir hC.name hK1 hS1 (by omega) hs1 hs2 hs3 hs4 hs5 hs6 hH9 hD9
          obtain ⟨r9, hr9⟩ := hW9
          refine ops_nil ?_
          refine Then_normal ?_
          refine wp_seq' ?_
          refine wp_region' ?_
          refine ops_ro' rfl (ro_move rfl) rfl ?_
          refine ops_eff' rfl (eff_callM (Pre := []) Tryz.call18 rfl rfl (Split.nil _) (fopens_spec (by first | exact hv_pick 0 rfl hv_own | exact hv_pick 1 rfl hv_own | exact hv_pick 2 rfl hv_own | exact hv_pick 3 rfl hv_own | exact hv_pick 4 rfl hv_own | exact hv_pick 5 rfl hv_own | exact hv_pick 6 rfl hv_own | exact hv_pick 7 rfl hv_own | exact hv_pick 8 rfl hv_own) hS9.ok.len 5 (by decide))) rfl ?_
          rintro _ H' ⟨_, ⟨p45, c45, rfl, rfl⟩, hH⟩
          simp only [List.cons_append, List.nil_append, List.eraseIdx_cons_zero, List.eraseIdx_cons_succ, List.set_cons_zero, List.set_cons_succ] at hH
          subst hH
          have ho9 := ses_open hS9
          refine ops_ro' rfl (ro_sliceLen Tryz.underlying47 rfl) rfl ?_
          refine ops_ro' rfl (ro_neq rfl rfl (decide_eq_false (by omega))) rfl ?_
          refine ops_nil ?_
          refine Then_normal ?_
          refine wp_condF rfl ?_
          refine wp_skip' ?_
          refine InBlock_normal ?_
          refine Then_normal ?_
          refine wp_region' ?_
          refine ops_ro' rfl (ro_move rfl) rfl ?_
          refine ops_ro' rfl (ro_add rfl rfl (wrap_inc (by omega))) rfl ?_
          refine ops_ro' rfl (ro_assign rfl) rfl ?_
          refine ops_nil ?_
          refine Then_normal ?_
          refine back (m - 1) (by omega) (kept ⟨i + 1, t9, r9, hs9, ⟨by omega, by omega, hr9, htb9, by omega, hK9, by omega, hS9⟩, rfl, rfl⟩ ?_ ?_ ?_)
          · exact (by repeat (first | exact Has.nil _ | refine Has.cons rfl ?_))
          · exact (by repeat (first | exact Has.nil _ | refine Has.cons rfl ?_))
          · exact (SubH.cons 7 rfl (SubH.cons 3 rfl (SubH.cons 3 rfl (SubH.cons 3 rfl (SubH.cons 4 rfl (SubH.nil _))))))
      · replace hc25 := of_decide_eq_false hc25
        refine wp_exit' ?_
        refine Then_exit ?_
        refine Then_exit ?_
        refine InBlock_here ?_
        refine Then_normal ?_
        refine wp_cutK 1014 (fun Δ LL => ∃ (t2 : Tr) (r2 : Nd) (b8 : Nat) (dpb8 : Option Addr) (dcb8 : Nat) (npb8 : Option Addr) (ncb8 : Nat), (Wf t2 r2 ∧ t2.tb = tb ∧ t2.next ≤ 100 ∧ MineF t2 ∧ Ses hs) ∧ Δ = [(8, .pointer (some ⟨b8, 0, none⟩))] ∧ LL = [own b8 (.cells (((Rk.stat 0) : Rk).rep dpb8 dcb8 npb8 ncb8).cs.toArray 32 (0, 0)), own b4 (.cells (((hdlK 0) : Rk).rep dpb4 dcb4 npb4 ncb4).cs.toArray 32 (0, 0)), oMa mb tb (hs), tree t2, St ((hs).map rowN), V]) (Has.cons (k := 3) rfl (Has.cons (k := 4) rfl (Has.nil _))) ?_ ?_
        · refine wp_region' ?_
          refine ops_ro' rfl (ro_move rfl) rfl ?_
          refine ops_eff' rfl (eff_buildSlice rfl (sbld (cs := cel [109, 105, 110, 101]) [.int .u8 0, .int .u8 0, .int .u8 0, .int .u8 0] sl25 (by decide) (by kernel_rfl) rfl)) rfl ?_
          rintro _ _ ⟨b49, rfl, rfl⟩
          refine ops_eff' rfl (eff_mark 0 Tryz.underlying25 Tryz.underlying5 rfl rfl rfl (by decide)) rfl ?_
          rintro _ _ ⟨rfl, rfl⟩
          simp only [List.set_cons_zero, List.set_cons_succ]
          refine ops_ro' rfl (ro_build rfl (bld_struct (cs := (qWr [104, 48] (some ⟨b49, 0, none⟩) 4 [109, 105, 110, 101]).cs) st35 rfl)) rfl ?_
          refine ops_eff' rfl (eff_callM (Pre := [_, _, _]) Tryz.call12 rfl rfl (by repeat (first | exact Split.nil _ | apply Split.cons 0 rfl | apply Split.cons 1 rfl | apply Split.cons 2 rfl | apply Split.cons 3 rfl | apply Split.cons 4 rfl | apply Split.cons 5 rfl | apply Split.cons 6 rfl | apply Split.cons 7 rfl | apply Split.cons 8 rfl | apply Split.cons 9 rfl | apply Split.cons 10 rfl | apply Split.cons 11 rfl)) (do16K hW1 htb1 hS1.ok ((5 : Nat) : Int) (qWr [104, 48] (some ⟨b49, 0, none⟩) 4 [109, 105, 110, 101]) (qWr_ok (by decide)) (by first | exact Ml.pick (H := _) 0 rfl hP | exact Ml.pick (H := _) 1 rfl hP | exact Ml.pick (H := _) 2 rfl hP | exact Ml.pick (H := _) 3 rfl hP | exact Ml.pick (H := _) 4 rfl hP | exact Ml.pick (H := _) 5 rfl hP | exact Ml.pick (H := _) 6 rfl hP | exact Ml.pick (H := _) 7 rfl hP | exact Ml.pick (H := _) 8 rfl hP) (by omega) (by first | exact Vw.pick 0 rfl Vw.row | exact Vw.pick 1 rfl Vw.row | exact Vw.pick 2 rfl Vw.row | exact Vw.pick 3 rfl Vw.row | exact Vw.pick 4 rfl Vw.row | exact Vw.pick 5 rfl Vw.row | exact Vw.pick 6 rfl Vw.row | exact Vw.pick 7 rfl Vw.row | exact Vw.pick 8 rfl Vw.row | exact Vw.pick 9 rfl Vw.row | exact Vw.pick 10 rfl Vw.row | exact Vw.nil _ | exact Vw.empty _ _))) rfl ?_
          rintro _ H' ⟨_, ⟨t9, hs9, k9, dp9, dc9, np9, nc9, rfl, hD9, hW9, htb9, hnx9, hH9, rfl⟩, hH⟩
          simp only [List.cons_append, List.nil_append, List.eraseIdx_cons_zero, List.eraseIdx_cons_succ, List.set_cons_zero, List.set_cons_succ] at hH
          subst hH
          obtain ⟨r9, hr9⟩ := hW9
          obtain ⟨hh, rfl, hF9⟩ := mine_write hW1 hC hK1 hS1 (by omega) hr9 hD9
          subst hh
          refine ops_eff' rfl (eff_alloc z32) rfl ?_
          rintro _ _ ⟨b8, rfl, rfl⟩
          refine ops_eff0 rfl (eff_storeA 0 ag32 rfl rfl rfl rfl rfl (Nat.le_of_ble_eq_true rfl) (warm_zero _)) rfl ?_
          rintro _ _ rfl
          simp only [List.set_cons_zero, List.set_cons_succ]
          refine ops_nil ?_
          refine Then_normal ?_
          refine over_cut (kept ⟨t9, r9, b8, dp9, dc9, np9, nc9, ⟨hr9, htb9, by omega, hF9, hS1⟩, rfl, rfl⟩ ?_ ?_ ?_)
          · exact (by repeat (first | exact Has.nil _ | refine Has.cons rfl ?_))
          · exact (by repeat (first | exact Has.nil _ | refine Has.cons rfl ?_))
          · exact (SubH.cons 0 rfl (SubH.cons 6 rfl (SubH.cons 2 rfl (SubH.cons 2 rfl (SubH.cons 2 rfl (SubH.cons 3 rfl (SubH.nil _)))))))
        · rintro Δ LL ⟨t2, r2, b8, dpb8, dcb8, npb8, ncb8, ⟨hW2, htb2, hnx2, hF2, hS1⟩, rfl, rfl⟩
          simp only [List.cons_append, List.nil_append]
          refine wp_cutK 1015 (fun Δ LL => ∃ (b9 : Nat) (dpb9 : Option Addr) (dcb9 : Nat) (npb9 : Option Addr) (ncb9 : Nat), Δ = [(9, .pointer (some ⟨b9, 0, none⟩))] ∧ LL = [own b9 (.cells (((⟨3, 0, [], [109, 105, 110, 101], [], At.zero⟩) : Rk).rep dpb9 dcb9 npb9 ncb9).cs.toArray 32 (0, 0)), rowD dpb9 dcb9 [109, 105, 110, 101], own b8 (.cells (((Rk.stat 0) : Rk).rep dpb8 dcb8 npb8 ncb8).cs.toArray 32 (0, 0)), own b4 (.cells (((hdlK 0) : Rk).rep dpb4 dcb4 npb4 ncb4).cs.toArray 32 (0, 0)), oMa mb tb (hs), tree t2, St ((hs).map rowN), V]) (Has.cons (k := 3) rfl (Has.cons (k := 4) rfl (Has.cons (k := 8) rfl (Has.nil _)))) ?_ ?_
          · refine wp_region' ?_
            refine ops_ro' rfl (ro_move rfl) rfl ?_
            refine ops_ro' rfl (ro_build rfl (bld_struct (cs := (qOn 5 [104, 48] 9).cs) st35 rfl)) rfl ?_
            refine ops_eff' rfl (eff_callM (Pre := [_, _, _]) Tryz.call12 rfl rfl (by repeat (first | exact Split.nil _ | apply Split.cons 0 rfl | apply Split.cons 1 rfl | apply Split.cons 2 rfl | apply Split.cons 3 rfl | apply Split.cons 4 rfl | apply Split.cons 5 rfl | apply Split.cons 6 rfl | apply Split.cons 7 rfl | apply Split.cons 8 rfl | apply Split.cons 9 rfl | apply Split.cons 10 rfl | apply Split.cons 11 rfl)) (do16K hW2 htb2 hS1.ok ((5 : Nat) : Int) (qOn 5 [104, 48] 9) (qOn_ok (by decide)) (by first | exact Ml.pick (H := _) 0 rfl hP | exact Ml.pick (H := _) 1 rfl hP | exact Ml.pick (H := _) 2 rfl hP | exact Ml.pick (H := _) 3 rfl hP | exact Ml.pick (H := _) 4 rfl hP | exact Ml.pick (H := _) 5 rfl hP | exact Ml.pick (H := _) 6 rfl hP | exact Ml.pick (H := _) 7 rfl hP | exact Ml.pick (H := _) 8 rfl hP) (by omega) (show Vw _ _ 0 (cel []) from Vw.nil _))) rfl ?_
            rintro _ H' ⟨_, ⟨t9, hs9, k9, dp9, dc9, np9, nc9, rfl, hD9, hW9, htb9, hnx9, hH9, rfl⟩, hH⟩
            simp only [List.cons_append, List.nil_append, List.eraseIdx_cons_zero, List.eraseIdx_cons_succ, List.set_cons_zero, List.set_cons_succ] at hH
            subst hH
            obtain ⟨ht, hh, rfl⟩ := mine_read hF2 hS1 hD9
            obtain rfl : t2 = t9 := ht.symm
            obtain rfl : hs = hs9 := hh.symm
            refine ops_eff' rfl (eff_alloc z32) rfl ?_
            rintro _ _ ⟨b9, rfl, rfl⟩
            refine ops_eff0 rfl (eff_storeA 0 ag32 rfl rfl rfl rfl rfl (Nat.le_of_ble_eq_true rfl) (warm_zero _)) rfl ?_
            rintro _ _ rfl
            simp only [List.set_cons_zero, List.set_cons_succ]
            refine ops_nil ?_
            refine Then_normal ?_
            refine over_cut (kept ⟨b9, dp9, dc9, np9, nc9, rfl, rfl⟩ ?_ ?_ ?_)
            · exact (by repeat (first | exact Has.nil _ | refine Has.cons rfl ?_))
            · exact (by repeat (first | exact Has.nil _ | refine Has.cons rfl ?_))
            · exact (SubH.cons 0 rfl (SubH.cons 0 rfl (SubH.cons 4 rfl (SubH.cons 4 rfl (SubH.cons 1 rfl (SubH.cons 1 rfl (SubH.cons 1 rfl (SubH.cons 1 rfl (SubH.nil _)))))))))
          · rintro Δ LL ⟨b9, dpb9, dcb9, npb9, ncb9, rfl, rfl⟩
            simp only [List.cons_append, List.nil_append]
            refine wp_seq' ?_
            refine wp_seq' ?_
            refine wp_region' ?_
            refine ops_ro' rfl (ro_assign rfl) rfl ?_
            refine ops_nil ?_
            refine Then_normal ?_
            refine wp_block' ?_
            refine wp_loopK 16 (fun m Δ LL => ∃ (j : Nat) (hs : List Hd), (j + m = 6 ∧ HsOk hs ∧ (6 ≤ j → ∀ i, i < 16 → (hdA hs 5 i).used = false)) ∧ Δ = [(10, .int .i64 (j : Nat))] ∧ LL = [own b9 (.cells (((⟨3, 0, [], [109, 105, 110, 101], [], At.zero⟩) : Rk).rep dpb9 dcb9 npb9 ncb9).cs.toArray 32 (0, 0)), rowD dpb9 dcb9 [109, 105, 110, 101], own b8 (.cells (((Rk.stat 0) : Rk).rep dpb8 dcb8 npb8 ncb8).cs.toArray 32 (0, 0)), own b4 (.cells (((hdlK 0) : Rk).rep dpb4 dcb4 npb4 ncb4).cs.toArray 32 (0, 0)), oMa mb tb (hs), tree t2, St ((hs).map rowN), V]) (m := 6) (Has.cons (k := 3) rfl (Has.cons (k := 4) rfl (Has.cons (k := 8) rfl (Has.cons (k := 9) rfl (Has.nil _))))) (kept ⟨0, hs, ⟨by omega, hS1.ok, fun h => by omega⟩, rfl, rfl⟩ (by repeat (first | exact Has.nil _ | refine Has.cons rfl ?_)) (by repeat (first | exact Has.nil _ | refine Has.cons rfl ?_)) (by repeat (first | exact SubH.nil _ | refine SubH.cons 0 rfl ?_ | refine SubH.cons 1 rfl ?_ | refine SubH.cons 2 rfl ?_ | refine SubH.cons 3 rfl ?_ | refine SubH.cons 4 rfl ?_ | refine SubH.cons 5 rfl ?_ | refine SubH.cons 6 rfl ?_ | refine SubH.cons 7 rfl ?_ | refine SubH.cons 8 rfl ?_ | refine SubH.cons 9 rfl ?_ | refine SubH.cons 10 rfl ?_ | refine SubH.cons 11 rfl ?_ | refine SubH.cons 12 rfl ?_ | refine SubH.cons 13 rfl ?_ | refine SubH.rown ?_))) ?_
            rintro m Δ LL ⟨j, hs, ⟨hm, hH2, hz2⟩, rfl, rfl⟩
            simp only [List.cons_append, List.nil_append]
            refine wp_seq' ?_
            refine wp_seq' ?_
            refine wp_region' ?_
            refine ops_ro' rfl (ro_move rfl) rfl ?_
            refine ops_ro' rfl (ro_leq rfl rfl rfl) rfl ?_
            refine ops_nil ?_
            refine Then_normal ?_
            refine wp_cond' rfl (fun hc57 => ?_) (fun hc57 => ?_)
            · replace hc57 := of_decide_eq_true hc57
              refine wp_skip' ?_
              refine Then_normal ?_
              refine wp_seq' ?_
              refine wp_block' ?_
              refine wp_seq' ?_
              refine wp_region' ?_
              refine ops_ro' rfl (ro_move rfl) rfl ?_
              refine ops_ro' rfl (ro_move rfl) rfl ?_
              refine ops_eff' rfl (eff_call Tryz.call19 rfl rfl (by repeat (first | exact Split.nil _ | apply Split.cons 0 rfl | apply Split.cons 1 rfl | apply Split.cons 2 rfl | apply Split.cons 3 rfl | apply Split.cons 4 rfl | apply Split.cons 5 rfl | apply Split.cons 6 rfl | apply Split.cons 7 rfl | apply Split.cons 8 rfl | apply Split.cons 9 rfl | apply Split.cons 10 rfl | apply Split.cons 11 rfl)) (fdrop_spec hH2.len j (by omega))) rfl ?_
              rintro _ H' ⟨_, ⟨rfl, rfl⟩, hH⟩
              simp only [List.cons_append, List.nil_append, List.eraseIdx_cons_zero, List.eraseIdx_cons_succ, List.set_cons_zero, List.set_cons_succ] at hH
              subst hH
              refine ops_nil ?_
              refine Then_normal ?_
              refine wp_seq' ?_
              refine wp_region' ?_
              refine ops_ro' rfl (ro_move rfl) rfl ?_
              refine ops_ro' rfl (ro_move rfl) rfl ?_
              refine ops_eff' rfl (eff_callM (Pre := []) Tryz.call18 rfl rfl (Split.nil _) (fopens_spec (by first | exact hv_pick 0 rfl hv_own | exact hv_pick 1 rfl hv_own | exact hv_pick 2 rfl hv_own | exact hv_pick 3 rfl hv_own | exact hv_pick 4 rfl hv_own | exact hv_pick 5 rfl hv_own | exact hv_pick 6 rfl hv_own | exact hv_pick 7 rfl hv_own | exact hv_pick 8 rfl hv_own) (dropH_ok hH2 (by omega)).len j (by omega))) rfl ?_
              rintro _ H' ⟨_, ⟨p65, c65, rfl, rfl⟩, hH⟩
              simp only [List.cons_append, List.nil_append, List.eraseIdx_cons_zero, List.eraseIdx_cons_succ, List.set_cons_zero, List.set_cons_succ] at hH
              subst hH
              have ho65 := drop_open hH2 (show j < 16 by omega)
              refine ops_ro' rfl (ro_sliceLen Tryz.underlying47 rfl) rfl ?_
              refine ops_ro' rfl (ro_gtr rfl rfl (decide_eq_false (by omega))) rfl ?_
              refine ops_nil ?_
              refine Then_normal ?_
              refine wp_condF rfl ?_
              refine wp_skip' ?_
              refine InBlock_normal ?_
              refine Then_normal ?_
              refine wp_region' ?_
              refine ops_ro' rfl (ro_move rfl) rfl ?_
              refine ops_ro' rfl (ro_add rfl rfl (wrap_inc (by omega))) rfl ?_
              refine ops_ro' rfl (ro_assign rfl) rfl ?_
              refine ops_nil ?_
              refine Then_normal ?_
              refine back (m - 1) (by omega) (kept ⟨j + 1, dropH hs j, ⟨by omega, dropH_ok hH2 (by omega), fun h i hi => by rw [hdA_drop hH2.len (by omega) hi (by decide), if_pos (by omega)]; rfl⟩, rfl, rfl⟩ ?_ ?_ ?_)
              · exact (by repeat (first | exact Has.nil _ | refine Has.cons rfl ?_))
              · exact (by repeat (first | exact Has.nil _ | refine Has.cons rfl ?_))
              · exact (SubH.cons 3 rfl (SubH.cons 3 rfl (SubH.cons 3 rfl (SubH.cons 3 rfl (SubH.cons 1 rfl (SubH.cons 2 rfl (SubH.cons 1 rfl (SubH.cons 1 rfl (SubH.nil _)))))))))
            · replace hc57 := of_decide_eq_false hc57
              refine wp_exit' ?_
              refine Then_exit ?_
              refine Then_exit ?_
              refine InBlock_here ?_
              refine Then_normal ?_
              refine wp_seq' ?_
              refine wp_region' ?_
              refine ops_ro' rfl (ro_move rfl) rfl ?_
              refine ops_ro' rfl (ro_build rfl (bld_struct (cs := (qOn 4 [104, 48] 0).cs) st35 rfl)) rfl ?_
              refine ops_eff' rfl (eff_callM (Pre := [_, _, _]) Tryz.call12 rfl rfl (by repeat (first | exact Split.nil _ | apply Split.cons 0 rfl | apply Split.cons 1 rfl | apply Split.cons 2 rfl | apply Split.cons 3 rfl | apply Split.cons 4 rfl | apply Split.cons 5 rfl | apply Split.cons 6 rfl | apply Split.cons 7 rfl | apply Split.cons 8 rfl | apply Split.cons 9 rfl | apply Split.cons 10 rfl | apply Split.cons 11 rfl)) (do16K hW2 htb2 hH2 ((5 : Nat) : Int) (qOn 4 [104, 48] 0) (qOn_ok (by decide)) (by first | exact Ml.pick (H := _) 0 rfl hP | exact Ml.pick (H := _) 1 rfl hP | exact Ml.pick (H := _) 2 rfl hP | exact Ml.pick (H := _) 3 rfl hP | exact Ml.pick (H := _) 4 rfl hP | exact Ml.pick (H := _) 5 rfl hP | exact Ml.pick (H := _) 6 rfl hP | exact Ml.pick (H := _) 7 rfl hP | exact Ml.pick (H := _) 8 rfl hP) (by omega) (show Vw _ _ 0 (cel []) from Vw.nil _))) rfl ?_
              rintro _ H' ⟨_, ⟨t9, hs9, k9, dp9, dc9, np9, nc9, rfl, hD9, hW9, htb9, hnx9, hH9, rfl⟩, hH⟩
              simp only [List.cons_append, List.nil_append, List.eraseIdx_cons_zero, List.eraseIdx_cons_succ, List.set_cons_zero, List.set_cons_succ] at hH
              subst hH
              obtain ⟨ht, hcl⟩ := run_close (s := 5) (by decide) rfl hD9
              unfold closeR at hcl
              rw [find_miss (fun j hj h => by rw [hz2 (by omega) j hj] at h; cases h.1)] at hcl
              obtain ⟨hh, rfl⟩ := hcl
              refine ops_eff' rfl (eff_alloc z32) rfl ?_
              rintro _ _ ⟨b11, rfl, rfl⟩
              refine ops_eff0 rfl (eff_storeA 0 ag32 rfl rfl rfl rfl rfl (Nat.le_of_ble_eq_true rfl) (warm_zero _)) rfl ?_
              rintro _ _ rfl
              simp only [List.set_cons_zero, List.set_cons_succ]
              refine ops_nil ?_
              refine Then_normal ?_
              refine wp_seq' ?_
              refine wp_region' ?_
              refine ops_ro' rfl (ro_fieldAddr fa32_0 rfl) rfl ?_
              refine ops_ro' rfl (ro_load sc3 rfl (Rd.pick 9 rfl (Rd.own rfl))) rfl ?_
              refine ops_ro' rfl (ro_eql rfl rfl rfl) rfl ?_
              refine ops_ro' rfl (ro_move (v := .bool true) rfl) rfl ?_
              refine ops_ro' rfl (ro_fieldAddr fa32_1 rfl) rfl ?_
              refine ops_ro' rfl (ro_load sc3 rfl (Rd.pick 8 rfl (Rd.own rfl))) rfl ?_
              refine ops_ro' rfl (ro_eql rfl rfl rfl) rfl ?_
              refine ops_ro' rfl (ro_pick rfl rfl) rfl ?_
              refine ops_ro' rfl (ro_move (v := .bool true) rfl) rfl ?_
              refine ops_ro' rfl (ro_fieldAddr fa32_0 rfl) rfl ?_
              refine ops_ro' rfl (ro_load sc3 rfl (Rd.pick 6 rfl (Rd.own rfl))) rfl ?_
              refine ops_ro' rfl (ro_eql rfl rfl rfl) rfl ?_
              refine ops_ro' rfl (ro_pick rfl rfl) rfl ?_
              refine ops_ro' rfl (ro_move (v := .bool true) rfl) rfl ?_
              refine ops_ro' rfl (ro_fieldAddr fa32_3 rfl) rfl ?_
              refine ops_ro' rfl (ro_load sc25 rfl (Rd.pick 6 rfl (Rd.own rfl))) rfl ?_
              refine ops_ro' rfl (ro_toStr Tryz.underlying25 Tryz.underlying5 Tryz.underlying9 rfl (Vw.pick 7 rfl Vw.row) rfl) rfl ?_
              refine ops_ro' rfl (ro_eqlS rfl rfl (decide_eq_true rfl)) rfl ?_
              refine ops_ro' rfl (ro_pick rfl rfl) rfl ?_
              refine ops_ro' rfl (ro_move (v := .bool true) rfl) rfl ?_
              refine ops_ro' rfl (ro_fieldAddr fa32_0 rfl) rfl ?_
              refine ops_ro' rfl (ro_load sc3 rfl (Rd.pick 0 rfl (Rd.own rfl))) rfl ?_
              refine ops_ro' rfl (ro_eql rfl rfl rfl) rfl ?_
              refine ops_ro' rfl (ro_pick rfl rfl) rfl ?_
              refine ops_ro' rfl (ro_move (v := .bool true) rfl) rfl ?_
              refine ops_ro' rfl (ro_fieldAddr fa32_1 rfl) rfl ?_
              refine ops_ro' rfl (ro_load sc3 rfl (Rd.pick 0 rfl (Rd.own rfl))) rfl ?_
              refine ops_ro' rfl (ro_eql rfl rfl rfl) rfl ?_
              refine ops_ro' rfl (ro_pick rfl rfl) rfl ?_
              refine ops_ro' rfl (ro_move (v := .bool true) rfl) rfl ?_
              refine ops_eff' rfl (eff_call Tryz.call15 rfl rfl (by repeat (first | exact Split.nil _ | apply Split.cons 0 rfl | apply Split.cons 1 rfl | apply Split.cons 2 rfl | apply Split.cons 3 rfl | apply Split.cons 4 rfl | apply Split.cons 5 rfl | apply Split.cons 6 rfl | apply Split.cons 7 rfl | apply Split.cons 8 rfl | apply Split.cons 9 rfl | apply Split.cons 10 rfl | apply Split.cons 11 rfl)) (known16_spec V hP)) rfl ?_
              rintro _ H' ⟨_, ⟨rfl, rfl⟩, hH⟩
              simp only [List.cons_append, List.nil_append, List.eraseIdx_cons_zero, List.eraseIdx_cons_succ, List.set_cons_zero, List.set_cons_succ] at hH
              subst hH
              refine ops_ro' rfl (ro_pick rfl rfl) rfl ?_
              refine ops_ro' rfl (ro_assign rfl) rfl ?_
              refine ops_nil ?_
              refine Then_normal ?_
              refine wp_ret' ?_
              refine' doneS_ret (res1 rfl rfl) ?_ ?_
              rotate_left 1
              exact ⟨rfl, rfl⟩
              exact (SubH.cons 0 rfl (SubH.nil _))
    · replace hg22 := of_decide_eq_false hg22
      refine ops_skip' rfl rfl ?_
      refine ops_skip' rfl rfl ?_
      refine ops_ro' rfl (ro_pick rfl rfl) rfl ?_
      refine ops_nil ?_
      refine Then_normal ?_
      refine wp_condF rfl ?_
      refine wp_exit' ?_
      refine Then_exit ?_
      refine Then_exit ?_
      refine InBlock_here ?_
      refine Then_normal ?_
      refine wp_cutK 1014 (fun Δ LL => ∃ (t2 : Tr) (r2 : Nd) (b8 : Nat) (dpb8 : Option Addr) (dcb8 : Nat) (npb8 : Option Addr) (ncb8 : Nat), (Wf t2 r2 ∧ t2.tb = tb ∧ t2.next ≤ 100 ∧ MineF t2 ∧ Ses hs) ∧ Δ = [(8, .pointer (some ⟨b8, 0, none⟩))] ∧ LL = [own b8 (.cells (((Rk.stat 0) : Rk).rep dpb8 dcb8 npb8 ncb8).cs.toArray 32 (0, 0)), own b4 (.cells (((hdlK 0) : Rk).rep dpb4 dcb4 npb4 ncb4).cs.toArray 32 (0, 0)), oMa mb tb (hs), tree t2, St ((hs).map rowN), V]) (Has.cons (k := 3) rfl (Has.cons (k := 4) rfl (Has.nil _))) ?_ ?_
      · refine wp_region' ?_
        refine ops_ro' rfl (ro_move rfl) rfl ?_
        refine ops_eff' rfl (eff_buildSlice rfl (sbld (cs := cel [109, 105, 110, 101]) [.int .u8 0, .int .u8 0, .int .u8 0, .int .u8 0] sl25 (by decide) (by kernel_rfl) rfl)) rfl ?_
        rintro _ _ ⟨b49, rfl, rfl⟩
        refine ops_eff' rfl (eff_mark 0 Tryz.underlying25 Tryz.underlying5 rfl rfl rfl (by decide)) rfl ?_
        rintro _ _ ⟨rfl, rfl⟩
        simp only [List.set_cons_zero, List.set_cons_succ]
        refine ops_ro' rfl (ro_build rfl (bld_struct (cs := (qWr [104, 48] (some ⟨b49, 0, none⟩) 4 [109, 105, 110, 101]).cs) st35 rfl)) rfl ?_
        refine ops_eff' rfl (eff_callM (Pre := [_, _, _]) Tryz.call12 rfl rfl (by repeat (first | exact Split.nil _ | apply Split.cons 0 rfl | apply Split.cons 1 rfl | apply Split.cons 2 rfl | apply Split.cons 3 rfl | apply Split.cons 4 rfl | apply Split.cons 5 rfl | apply Split.cons 6 rfl | apply Split.cons 7 rfl | apply Split.cons 8 rfl | apply Split.cons 9 rfl | apply Split.cons 10 rfl | apply Split.cons 11 rfl)) (do16K hW1 htb1 hS1.ok ((5 : Nat) : Int) (qWr [104, 48] (some ⟨b49, 0, none⟩) 4 [109, 105, 110, 101]) (qWr_ok (by decide)) (by first | exact Ml.pick (H := _) 0 rfl hP | exact Ml.pick (H := _) 1 rfl hP | exact Ml.pick (H := _) 2 rfl hP | exact Ml.pick (H := _) 3 rfl hP | exact Ml.pick (H := _) 4 rfl hP | exact Ml.pick (H := _) 5 rfl hP | exact Ml.pick (H := _) 6 rfl hP | exact Ml.pick (H := _) 7 rfl hP | exact Ml.pick (H := _) 8 rfl hP) (by omega) (by first | exact Vw.pick 0 rfl Vw.row | exact Vw.pick 1 rfl Vw.row | exact Vw.pick 2 rfl Vw.row | exact Vw.pick 3 rfl Vw.row | exact Vw.pick 4 rfl Vw.row | exact Vw.pick 5 rfl Vw.row | exact Vw.pick 6 rfl Vw.row | exact Vw.pick 7 rfl Vw.row | exact Vw.pick 8 rfl Vw.row | exact Vw.pick 9 rfl Vw.row | exact Vw.pick 10 rfl Vw.row | exact Vw.nil _ | exact Vw.empty _ _))) rfl ?_
        rintro _ H' ⟨_, ⟨t9, hs9, k9, dp9, dc9, np9, nc9, rfl, hD9, hW9, htb9, hnx9, hH9, rfl⟩, hH⟩
        simp only [List.cons_append, List.nil_append, List.eraseIdx_cons_zero, List.eraseIdx_cons_succ, List.set_cons_zero, List.set_cons_succ] at hH
        subst hH
        obtain ⟨r9, hr9⟩ := hW9
        obtain ⟨hh, rfl, hF9⟩ := mine_write hW1 hC hK1 hS1 (by omega) hr9 hD9
        subst hh
        refine ops_eff' rfl (eff_alloc z32) rfl ?_
        rintro _ _ ⟨b8, rfl, rfl⟩
        refine ops_eff0 rfl (eff_storeA 0 ag32 rfl rfl rfl rfl rfl (Nat.le_of_ble_eq_true rfl) (warm_zero _)) rfl ?_
        rintro _ _ rfl
        simp only [List.set_cons_zero, List.set_cons_succ]
        refine ops_nil ?_
        refine Then_normal ?_
        refine over_cut (kept ⟨t9, r9, b8, dp9, dc9, np9, nc9, ⟨hr9, htb9, by omega, hF9, hS1⟩, rfl, rfl⟩ ?_ ?_ ?_)
        · exact (by repeat (first | exact Has.nil _ | refine Has.cons rfl ?_))
        · exact (by repeat (first | exact Has.nil _ | refine Has.cons rfl ?_))
        · exact (SubH.cons 0 rfl (SubH.cons 6 rfl (SubH.cons 2 rfl (SubH.cons 2 rfl (SubH.cons 2 rfl (SubH.cons 3 rfl (SubH.nil _)))))))
      · rintro Δ LL ⟨t2, r2, b8, dpb8, dcb8, npb8, ncb8, ⟨hW2, htb2, hnx2, hF2, hS1⟩, rfl, rfl⟩
        simp only [List.cons_append, List.nil_append]
        refine wp_cutK 1015 (fun Δ LL => ∃ (b9 : Nat) (dpb9 : Option Addr) (dcb9 : Nat) (npb9 : Option Addr) (ncb9 : Nat), Δ = [(9, .pointer (some ⟨b9, 0, none⟩))] ∧ LL = [own b9 (.cells (((⟨3, 0, [], [109, 105, 110, 101], [], At.zero⟩) : Rk).rep dpb9 dcb9 npb9 ncb9).cs.toArray 32 (0, 0)), rowD dpb9 dcb9 [109, 105, 110, 101], own b8 (.cells (((Rk.stat 0) : Rk).rep dpb8 dcb8 npb8 ncb8).cs.toArray 32 (0, 0)), own b4 (.cells (((hdlK 0) : Rk).rep dpb4 dcb4 npb4 ncb4).cs.toArray 32 (0, 0)), oMa mb tb (hs), tree t2, St ((hs).map rowN), V]) (Has.cons (k := 3) rfl (Has.cons (k := 4) rfl (Has.cons (k := 8) rfl (Has.nil _)))) ?_ ?_
        · refine wp_region' ?_
          refine ops_ro' rfl (ro_move rfl) rfl ?_
          refine ops_ro' rfl (ro_build rfl (bld_struct (cs := (qOn 5 [104, 48] 9).cs) st35 rfl)) rfl ?_
          refine ops_eff' rfl (eff_callM (Pre := [_, _, _]) Tryz.call12 rfl rfl (by repeat (first | exact Split.nil _ | apply Split.cons 0 rfl | apply Split.cons 1 rfl | apply Split.cons 2 rfl | apply Split.cons 3 rfl | apply Split.cons 4 rfl | apply Split.cons 5 rfl | apply Split.cons 6 rfl | apply Split.cons 7 rfl | apply Split.cons 8 rfl | apply Split.cons 9 rfl | apply Split.cons 10 rfl | apply Split.cons 11 rfl)) (do16K hW2 htb2 hS1.ok ((5 : Nat) : Int) (qOn 5 [104, 48] 9) (qOn_ok (by decide)) (by first | exact Ml.pick (H := _) 0 rfl hP | exact Ml.pick (H := _) 1 rfl hP | exact Ml.pick (H := _) 2 rfl hP | exact Ml.pick (H := _) 3 rfl hP | exact Ml.pick (H := _) 4 rfl hP | exact Ml.pick (H := _) 5 rfl hP | exact Ml.pick (H := _) 6 rfl hP | exact Ml.pick (H := _) 7 rfl hP | exact Ml.pick (H := _) 8 rfl hP) (by omega) (show Vw _ _ 0 (cel []) from Vw.nil _))) rfl ?_
          rintro _ H' ⟨_, ⟨t9, hs9, k9, dp9, dc9, np9, nc9, rfl, hD9, hW9, htb9, hnx9, hH9, rfl⟩, hH⟩
          simp only [List.cons_append, List.nil_append, List.eraseIdx_cons_zero, List.eraseIdx_cons_succ, List.set_cons_zero, List.set_cons_succ] at hH
          subst hH
          obtain ⟨ht, hh, rfl⟩ := mine_read hF2 hS1 hD9
          obtain rfl : t2 = t9 := ht.symm
          obtain rfl : hs = hs9 := hh.symm
          refine ops_eff' rfl (eff_alloc z32) rfl ?_
          rintro _ _ ⟨b9, rfl, rfl⟩
          refine ops_eff0 rfl (eff_storeA 0 ag32 rfl rfl rfl rfl rfl (Nat.le_of_ble_eq_true rfl) (warm_zero _)) rfl ?_
          rintro _ _ rfl
          simp only [List.set_cons_zero, List.set_cons_succ]
          refine ops_nil ?_
          refine Then_normal ?_
          refine over_cut (kept ⟨b9, dp9, dc9, np9, nc9, rfl, rfl⟩ ?_ ?_ ?_)
          · exact (by repeat (first | exact Has.nil _ | refine Has.cons rfl ?_))
          · exact (by repeat (first | exact Has.nil _ | refine Has.cons rfl ?_))
          · exact (SubH.cons 0 rfl (SubH.cons 0 rfl (SubH.cons 4 rfl (SubH.cons 4 rfl (SubH.cons 1 rfl (SubH.cons 1 rfl (SubH.cons 1 rfl (SubH.cons 1 rfl (SubH.nil _)))))))))
        · rintro Δ LL ⟨b9, dpb9, dcb9, npb9, ncb9, rfl, rfl⟩
          simp only [List.cons_append, List.nil_append]
          refine wp_seq' ?_
          refine wp_seq' ?_
          refine wp_region' ?_
          refine ops_ro' rfl (ro_assign rfl) rfl ?_
          refine ops_nil ?_
          refine Then_normal ?_
          refine wp_block' ?_
          refine wp_loopK 16 (fun m Δ LL => ∃ (j : Nat) (hs : List Hd), (j + m = 6 ∧ HsOk hs ∧ (6 ≤ j → ∀ i, i < 16 → (hdA hs 5 i).used = false)) ∧ Δ = [(10, .int .i64 (j : Nat))] ∧ LL = [own b9 (.cells (((⟨3, 0, [], [109, 105, 110, 101], [], At.zero⟩) : Rk).rep dpb9 dcb9 npb9 ncb9).cs.toArray 32 (0, 0)), rowD dpb9 dcb9 [109, 105, 110, 101], own b8 (.cells (((Rk.stat 0) : Rk).rep dpb8 dcb8 npb8 ncb8).cs.toArray 32 (0, 0)), own b4 (.cells (((hdlK 0) : Rk).rep dpb4 dcb4 npb4 ncb4).cs.toArray 32 (0, 0)), oMa mb tb (hs), tree t2, St ((hs).map rowN), V]) (m := 6) (Has.cons (k := 3) rfl (Has.cons (k := 4) rfl (Has.cons (k := 8) rfl (Has.cons (k := 9) rfl (Has.nil _))))) (kept ⟨0, hs, ⟨by omega, hS1.ok, fun h => by omega⟩, rfl, rfl⟩ (by repeat (first | exact Has.nil _ | refine Has.cons rfl ?_)) (by repeat (first | exact Has.nil _ | refine Has.cons rfl ?_)) (by repeat (first | exact SubH.nil _ | refine SubH.cons 0 rfl ?_ | refine SubH.cons 1 rfl ?_ | refine SubH.cons 2 rfl ?_ | refine SubH.cons 3 rfl ?_ | refine SubH.cons 4 rfl ?_ | refine SubH.cons 5 rfl ?_ | refine SubH.cons 6 rfl ?_ | refine SubH.cons 7 rfl ?_ | refine SubH.cons 8 rfl ?_ | refine SubH.cons 9 rfl ?_ | refine SubH.cons 10 rfl ?_ | refine SubH.cons 11 rfl ?_ | refine SubH.cons 12 rfl ?_ | refine SubH.cons 13 rfl ?_ | refine SubH.rown ?_))) ?_
          rintro m Δ LL ⟨j, hs, ⟨hm, hH2, hz2⟩, rfl, rfl⟩
          simp only [List.cons_append, List.nil_append]
          refine wp_seq' ?_
          refine wp_seq' ?_
          refine wp_region' ?_
          refine ops_ro' rfl (ro_move rfl) rfl ?_
          refine ops_ro' rfl (ro_leq rfl rfl rfl) rfl ?_
          refine ops_nil ?_
          refine Then_normal ?_
          refine wp_cond' rfl (fun hc57 => ?_) (fun hc57 => ?_)
          · replace hc57 := of_decide_eq_true hc57
            refine wp_skip' ?_
            refine Then_normal ?_
            refine wp_seq' ?_
            refine wp_block' ?_
            refine wp_seq' ?_
            refine wp_region' ?_
            refine ops_ro' rfl (ro_move rfl) rfl ?_
            refine ops_ro' rfl (ro_move rfl) rfl ?_
            refine ops_eff' rfl (eff_call Tryz.call19 rfl rfl (by repeat (first | exact Split.nil _ | apply Split.cons 0 rfl | apply Split.cons 1 rfl | apply Split.cons 2 rfl | apply Split.cons 3 rfl | apply Split.cons 4 rfl | apply Split.cons 5 rfl | apply Split.cons 6 rfl | apply Split.cons 7 rfl | apply Split.cons 8 rfl | apply Split.cons 9 rfl | apply Split.cons 10 rfl | apply Split.cons 11 rfl)) (fdrop_spec hH2.len j (by omega))) rfl ?_
            rintro _ H' ⟨_, ⟨rfl, rfl⟩, hH⟩
            simp only [List.cons_append, List.nil_append, List.eraseIdx_cons_zero, List.eraseIdx_cons_succ, List.set_cons_zero, List.set_cons_succ] at hH
            subst hH
            refine ops_nil ?_
            refine Then_normal ?_
            refine wp_seq' ?_
            refine wp_region' ?_
            refine ops_ro' rfl (ro_move rfl) rfl ?_
            refine ops_ro' rfl (ro_move rfl) rfl ?_
            refine ops_eff' rfl (eff_callM (Pre := []) Tryz.call18 rfl rfl (Split.nil _) (fopens_spec (by first | exact hv_pick 0 rfl hv_own | exact hv_pick 1 rfl hv_own | exact hv_pick 2 rfl hv_own | exact hv_pick 3 rfl hv_own | exact hv_pick 4 rfl hv_own | exact hv_pick 5 rfl hv_own | exact hv_pick 6 rfl hv_own | exact hv_pick 7 rfl hv_own | exact hv_pick 8 rfl hv_own) (dropH_ok hH2 (by omega)).len j (by omega))) rfl ?_
            rintro _ H' ⟨_, ⟨p65, c65, rfl, rfl⟩, hH⟩
            simp only [List.cons_append, List.nil_append, List.eraseIdx_cons_zero, List.eraseIdx_cons_succ, List.set_cons_zero, List.set_cons_succ] at hH
            subst hH
            have ho65 := drop_open hH2 (show j < 16 by omega)
            refine ops_ro' rfl (ro_sliceLen Tryz.underlying47 rfl) rfl ?_
            refine ops_ro' rfl (ro_gtr rfl rfl (decide_eq_false (by omega))) rfl ?_
            refine ops_nil ?_
            refine Then_normal ?_
            refine wp_condF rfl ?_
            refine wp_skip' ?_
            refine InBlock_normal ?_
            refine Then_normal ?_
            refine wp_region' ?_
            refine ops_ro' rfl (ro_move rfl) rfl ?_
            refine ops_ro' rfl (ro_add rfl rfl (wrap_inc (by omega))) rfl ?_
            refine ops_ro' rfl (ro_assign rfl) rfl ?_
            refine ops_nil ?_
            refine Then_normal ?_
            refine back (m - 1) (by omega) (kept ⟨j + 1, dropH hs j, ⟨by omega, dropH_ok hH2 (by omega), fun h i hi => by rw [hdA_drop hH2.len (by omega) hi (by decide), if_pos (by omega)]; rfl⟩, rfl, rfl⟩ ?_ ?_ ?_)
            · exact (by repeat (first | exact Has.nil _ | refine Has.cons rfl ?_))
            · exact (by repeat (first | exact Has.nil _ | refine Has.cons rfl ?_))
            · exact (SubH.cons 3 rfl (SubH.cons 3 rfl (SubH.cons 3 rfl (SubH.cons 3 rfl (SubH.cons 1 rfl (SubH.cons 2 rfl (SubH.cons 1 rfl (SubH.cons 1 rfl (SubH.nil _)))))))))
          · replace hc57 := of_decide_eq_false hc57
            refine wp_exit' ?_
            refine Then_exit ?_
            refine Then_exit ?_
            refine InBlock_here ?_
            refine Then_normal ?_
            refine wp_seq' ?_
            refine wp_region' ?_
            refine ops_ro' rfl (ro_move rfl) rfl ?_
            refine ops_ro' rfl (ro_build rfl (bld_struct (cs := (qOn 4 [104, 48] 0).cs) st35 rfl)) rfl ?_
            refine ops_eff' rfl (eff_callM (Pre := [_, _, _]) Tryz.call12 rfl rfl (by repeat (first | exact Split.nil _ | apply Split.cons 0 rfl | apply Split.cons 1 rfl | apply Split.cons 2 rfl | apply Split.cons 3 rfl | apply Split.cons 4 rfl | apply Split.cons 5 rfl | apply Split.cons 6 rfl | apply Split.cons 7 rfl | apply Split.cons 8 rfl | apply Split.cons 9 rfl | apply Split.cons 10 rfl | apply Split.cons 11 rfl)) (do16K hW2 htb2 hH2 ((5 : Nat) : Int) (qOn 4 [104, 48] 0) (qOn_ok (by decide)) (by first | exact Ml.pick (H := _) 0 rfl hP | exact Ml.pick (H := _) 1 rfl hP | exact Ml.pick (H := _) 2 rfl hP | exact Ml.pick (H := _) 3 rfl hP | exact Ml.pick (H := _) 4 rfl hP | exact Ml.pick (H := _) 5 rfl hP | exact Ml.pick (H := _) 6 rfl hP | exact Ml.pick (H := _) 7 rfl hP | exact Ml.pick (H := _) 8 rfl hP) (by omega) (show Vw _ _ 0 (cel []) from Vw.nil _))) rfl ?_
            rintro _ H' ⟨_, ⟨t9, hs9, k9, dp9, dc9, np9, nc9, rfl, hD9, hW9, htb9, hnx9, hH9, rfl⟩, hH⟩
            simp only [List.cons_append, List.nil_append, List.eraseIdx_cons_zero, List.eraseIdx_cons_succ, List.set_cons_zero, List.set_cons_succ] at hH
            subst hH
            obtain ⟨ht, hcl⟩ := run_close (s := 5) (by decide) rfl hD9
            unfold closeR at hcl
            rw [find_miss (fun j hj h => by rw [hz2 (by omega) j hj] at h; cases h.1)] at hcl
            obtain ⟨hh, rfl⟩ := hcl
            refine ops_eff' rfl (eff_alloc z32) rfl ?_
            rintro _ _ ⟨b11, rfl, rfl⟩
            refine ops_eff0 rfl (eff_storeA 0 ag32 rfl rfl rfl rfl rfl (Nat.le_of_ble_eq_true rfl) (warm_zero _)) rfl ?_
            rintro _ _ rfl
            simp only [List.set_cons_zero, List.set_cons_succ]
            refine ops_nil ?_
            refine Then_normal ?_
            refine wp_seq' ?_
            refine wp_region' ?_
            refine ops_ro' rfl (ro_fieldAddr fa32_0 rfl) rfl ?_
            refine ops_ro' rfl (ro_load sc3 rfl (Rd.pick 9 rfl (Rd.own rfl))) rfl ?_
            refine ops_ro' rfl (ro_eql rfl rfl rfl) rfl ?_
            refine ops_ro' rfl (ro_move (v := .bool true) rfl) rfl ?_
            refine ops_ro' rfl (ro_fieldAddr fa32_1 rfl) rfl ?_
            refine ops_ro' rfl (ro_load sc3 rfl (Rd.pick 8 rfl (Rd.own rfl))) rfl ?_
            refine ops_ro' rfl (ro_eql rfl rfl rfl) rfl ?_
            refine ops_ro' rfl (ro_pick rfl rfl) rfl ?_
            refine ops_ro' rfl (ro_move (v := .bool true) rfl) rfl ?_
            refine ops_ro' rfl (ro_fieldAddr fa32_0 rfl) rfl ?_
            refine ops_ro' rfl (ro_load sc3 rfl (Rd.pick 6 rfl (Rd.own rfl))) rfl ?_
            refine ops_ro' rfl (ro_eql rfl rfl rfl) rfl ?_
            refine ops_ro' rfl (ro_pick rfl rfl) rfl ?_
            refine ops_ro' rfl (ro_move (v := .bool true) rfl) rfl ?_
            refine ops_ro' rfl (ro_fieldAddr fa32_3 rfl) rfl ?_
            refine ops_ro' rfl (ro_load sc25 rfl (Rd.pick 6 rfl (Rd.own rfl))) rfl ?_
            refine ops_ro' rfl (ro_toStr Tryz.underlying25 Tryz.underlying5 Tryz.underlying9 rfl (Vw.pick 7 rfl Vw.row) rfl) rfl ?_
            refine ops_ro' rfl (ro_eqlS rfl rfl (decide_eq_true rfl)) rfl ?_
            refine ops_ro' rfl (ro_pick rfl rfl) rfl ?_
            refine ops_ro' rfl (ro_move (v := .bool true) rfl) rfl ?_
            refine ops_ro' rfl (ro_fieldAddr fa32_0 rfl) rfl ?_
            refine ops_ro' rfl (ro_load sc3 rfl (Rd.pick 0 rfl (Rd.own rfl))) rfl ?_
            refine ops_ro' rfl (ro_eql rfl rfl rfl) rfl ?_
            refine ops_ro' rfl (ro_pick rfl rfl) rfl ?_
            refine ops_ro' rfl (ro_move (v := .bool true) rfl) rfl ?_
            refine ops_ro' rfl (ro_fieldAddr fa32_1 rfl) rfl ?_
            refine ops_ro' rfl (ro_load sc3 rfl (Rd.pick 0 rfl (Rd.own rfl))) rfl ?_
            refine ops_ro' rfl (ro_eql rfl rfl rfl) rfl ?_
            refine ops_ro' rfl (ro_pick rfl rfl) rfl ?_
            refine ops_ro' rfl (ro_move (v := .bool true) rfl) rfl ?_
            refine ops_eff' rfl (eff_call Tryz.call15 rfl rfl (by repeat (first | exact Split.nil _ | apply Split.cons 0 rfl | apply Split.cons 1 rfl | apply Split.cons 2 rfl | apply Split.cons 3 rfl | apply Split.cons 4 rfl | apply Split.cons 5 rfl | apply Split.cons 6 rfl | apply Split.cons 7 rfl | apply Split.cons 8 rfl | apply Split.cons 9 rfl | apply Split.cons 10 rfl | apply Split.cons 11 rfl)) (known16_spec V hP)) rfl ?_
            rintro _ H' ⟨_, ⟨rfl, rfl⟩, hH⟩
            simp only [List.cons_append, List.nil_append, List.eraseIdx_cons_zero, List.eraseIdx_cons_succ, List.set_cons_zero, List.set_cons_succ] at hH
            subst hH
            refine ops_ro' rfl (ro_pick rfl rfl) rfl ?_
            refine ops_ro' rfl (ro_assign rfl) rfl ?_
            refine ops_nil ?_
            refine Then_normal ?_
            refine wp_ret' ?_
            refine' doneS_ret (res1 rfl rfl) ?_ ?_
            rotate_left 1
            exact ⟨rfl, rfl⟩
            exact (SubH.cons 0 rfl (SubH.nil _))

end Go.Proofs.YtlefpllcgcicpaaGreatDoor
