/-
  Law 15's asks that came in, opened.
  Within, Roomy, Intact, Same.
  TreeBytes: plain parts.
  A tree as bytes: put, Save.
-/
import Derived.Test.YtbbmhppkhcodfaaNmQ
import Derived.Test.YtbbmhppkhcodfaaSxOpen
import Derived.Test.YtbbmhppkhcodfaaSxSub
import Derived.Test.YtbbmhppkhcodfaaTrJ
import Derived.Test.YtbbmhppkhcodfaaTrK
import Derived.Test.YtbbmhppkhcodfaaTrD1
namespace Go.Proofs.Ytbbmhppkhcodfaa
open Go.Sx
set_option linter.unusedVariables false
set_option linter.unusedSimpArgs false
set_option maxRecDepth 100000
set_option maxHeartbeats 4000000

theorem At.len (x : At) : x.cs.length = 7 := rfl
structure Av where
  c : Ak
  q : Ap
def Av.cs (x : Av) : List Value := x.c.cs x.q
theorem Av.len (x : Av) : x.cs.length = 15 := rfl
abbrev Av.Ok (V : HProp) (x : Av) : Prop := x.c.Ok V x.q

theorem op_at {W : World} : Opens Try.prog W 40 At.cs (At.Ok) := fun H enc fuel cs x h => by
  obtain ⟨e, n, hg⟩ := opens_fields Try.underlying40 [1, 1, 1, 1, 1, 1, 1] (by kernel_rfl) h
  obtain ⟨x0, t0⟩ := hg 0 ⟨ "Flags", 37, 0, false, "", "", 0⟩ rfl
  rw [show Try.prog.cellsOf 37 = 1 by kernel_rfl] at t0
  obtain ⟨y0, e0, k0⟩ := (opens_u 4294967295 Try.underlying37 rfl rfl) H enc _ _ _ t0
  have z0 : (cs.drop (0)).take 1 = (fun n : Nat => [.int .u32 (n : Int)]) y0 := e0
  obtain ⟨x1, t1⟩ := hg 1 ⟨ "Size", 34, 1, false, "", "", 8⟩ rfl
  rw [show Try.prog.cellsOf 34 = 1 by kernel_rfl] at t1
  obtain ⟨y1, e1, k1⟩ := (opens_u 18446744073709551615 Try.underlying34 rfl rfl) H enc _ _ _ t1
  have z1 : (cs.drop (0 + 1)).take 1 = (fun n : Nat => [.int .u64 (n : Int)]) y1 := e1
  obtain ⟨x2, t2⟩ := hg 2 ⟨ "Uid", 37, 2, false, "", "", 16⟩ rfl
  rw [show Try.prog.cellsOf 37 = 1 by kernel_rfl] at t2
  obtain ⟨y2, e2, k2⟩ := (opens_u 4294967295 Try.underlying37 rfl rfl) H enc _ _ _ t2
  have z2 : (cs.drop (0 + 1 + 1)).take 1 = (fun n : Nat => [.int .u32 (n : Int)]) y2 := e2
  obtain ⟨x3, t3⟩ := hg 3 ⟨ "Gid", 37, 3, false, "", "", 20⟩ rfl
  rw [show Try.prog.cellsOf 37 = 1 by kernel_rfl] at t3
  obtain ⟨y3, e3, k3⟩ := (opens_u 4294967295 Try.underlying37 rfl rfl) H enc _ _ _ t3
  have z3 : (cs.drop (0 + 1 + 1 + 1)).take 1 = (fun n : Nat => [.int .u32 (n : Int)]) y3 := e3
  obtain ⟨x4, t4⟩ := hg 4 ⟨ "Mode", 37, 4, false, "", "", 24⟩ rfl
  rw [show Try.prog.cellsOf 37 = 1 by kernel_rfl] at t4
  obtain ⟨y4, e4, k4⟩ := (opens_u 4294967295 Try.underlying37 rfl rfl) H enc _ _ _ t4
  have z4 : (cs.drop (0 + 1 + 1 + 1 + 1)).take 1 = (fun n : Nat => [.int .u32 (n : Int)]) y4 := e4
  obtain ⟨x5, t5⟩ := hg 5 ⟨ "Atime", 37, 5, false, "", "", 28⟩ rfl
  rw [show Try.prog.cellsOf 37 = 1 by kernel_rfl] at t5
  obtain ⟨y5, e5, k5⟩ := (opens_u 4294967295 Try.underlying37 rfl rfl) H enc _ _ _ t5
  have z5 : (cs.drop (0 + 1 + 1 + 1 + 1 + 1)).take 1 = (fun n : Nat => [.int .u32 (n : Int)]) y5 := e5
  obtain ⟨x6, t6⟩ := hg 6 ⟨ "Mtime", 37, 6, false, "", "", 32⟩ rfl
  rw [show Try.prog.cellsOf 37 = 1 by kernel_rfl] at t6
  obtain ⟨y6, e6, k6⟩ := (opens_u 4294967295 Try.underlying37 rfl rfl) H enc _ _ _ t6
  have z6 : (cs.drop (0 + 1 + 1 + 1 + 1 + 1 + 1)).take 1 = (fun n : Nat => [.int .u32 (n : Int)]) y6 := e6
  refine ⟨⟨y0, y1, y2, y3, y4, y5, y6⟩, ?_, ⟨by simp only; omega, by simp only; omega, by simp only; omega, by simp only; omega, by simp only; omega, by simp only; omega, by simp only; omega⟩⟩
  rw [e]; simp only [chunks]
  rw [z0, z1, z2, z3, z4, z5, z6]; rfl
theorem op_ak {W : World} : Opens Try.prog W 47 Av.cs (Av.Ok (ro W)) := fun H enc fuel cs x h => by
  obtain ⟨e, n, hg⟩ := opens_fields Try.underlying47 [1, 1, 1, 1, 1, 1, 1, 1, 7] (by kernel_rfl) h
  obtain ⟨x0, t0⟩ := hg 0 ⟨ "Kind", 3, 0, false, "", "", 0⟩ rfl
  rw [show Try.prog.cellsOf 3 = 1 by kernel_rfl] at t0
  obtain ⟨y0, e0, k0⟩ := (opens_i64 Try.underlying3) H enc _ _ _ t0
  have z0 : (cs.drop (0)).take 1 = (fun k : Int => [.int .i64 k]) y0 := e0
  obtain ⟨x1, t1⟩ := hg 1 ⟨ "ID", 3, 1, false, "", "", 8⟩ rfl
  rw [show Try.prog.cellsOf 3 = 1 by kernel_rfl] at t1
  obtain ⟨y1, e1, k1⟩ := (opens_i64 Try.underlying3) H enc _ _ _ t1
  have z1 : (cs.drop (0 + 1)).take 1 = (fun k : Int => [.int .i64 k]) y1 := e1
  obtain ⟨x2, t2⟩ := hg 2 ⟨ "P", 29, 2, false, "", "", 16⟩ rfl
  rw [show Try.prog.cellsOf 29 = 1 by kernel_rfl] at t2
  obtain ⟨y2, e2, k2⟩ := (opens_slice Try.underlying29 1 (fun _ => rfl) (by kernel_rfl) (by decide) (opens_str Try.underlying9)) H enc _ _ _ t2
  have z2 : (cs.drop (0 + 1 + 1)).take 1 = (fun s => [Slv.v s]) y2 := e2
  obtain ⟨x3, t3⟩ := hg 3 ⟨ "To", 29, 3, false, "", "", 40⟩ rfl
  rw [show Try.prog.cellsOf 29 = 1 by kernel_rfl] at t3
  obtain ⟨y3, e3, k3⟩ := (opens_slice Try.underlying29 1 (fun _ => rfl) (by kernel_rfl) (by decide) (opens_str Try.underlying9)) H enc _ _ _ t3
  have z3 : (cs.drop (0 + 1 + 1 + 1)).take 1 = (fun s => [Slv.v s]) y3 := e3
  obtain ⟨x4, t4⟩ := hg 4 ⟨ "Dir", 4, 4, false, "", "", 64⟩ rfl
  rw [show Try.prog.cellsOf 4 = 1 by kernel_rfl] at t4
  obtain ⟨y4, e4, k4⟩ := (opens_bool Try.underlying4) H enc _ _ _ t4
  have z4 : (cs.drop (0 + 1 + 1 + 1 + 1)).take 1 = (fun b : Bool => [.bool b]) y4 := e4
  obtain ⟨x5, t5⟩ := hg 5 ⟨ "At", 34, 5, false, "", "", 72⟩ rfl
  rw [show Try.prog.cellsOf 34 = 1 by kernel_rfl] at t5
  obtain ⟨y5, e5, k5⟩ := (opens_u 18446744073709551615 Try.underlying34 rfl rfl) H enc _ _ _ t5
  have z5 : (cs.drop (0 + 1 + 1 + 1 + 1 + 1)).take 1 = (fun n : Nat => [.int .u64 (n : Int)]) y5 := e5
  obtain ⟨x6, t6⟩ := hg 6 ⟨ "N", 37, 6, false, "", "", 80⟩ rfl
  rw [show Try.prog.cellsOf 37 = 1 by kernel_rfl] at t6
  obtain ⟨y6, e6, k6⟩ := (opens_u 4294967295 Try.underlying37 rfl rfl) H enc _ _ _ t6
  have z6 : (cs.drop (0 + 1 + 1 + 1 + 1 + 1 + 1)).take 1 = (fun n : Nat => [.int .u32 (n : Int)]) y6 := e6
  obtain ⟨x7, t7⟩ := hg 7 ⟨ "B", 30, 7, false, "", "", 88⟩ rfl
  rw [show Try.prog.cellsOf 30 = 1 by kernel_rfl] at t7
  obtain ⟨y7, e7, k7⟩ := (opens_slice Try.underlying30 1 (fun _ => rfl) (by kernel_rfl) (by decide) (opens_byte Try.underlying5)) H enc _ _ _ t7
  have z7 : (cs.drop (0 + 1 + 1 + 1 + 1 + 1 + 1 + 1)).take 1 = (fun s => [Slv.v s]) y7 := e7
  obtain ⟨x8, t8⟩ := hg 8 ⟨ "A", 40, 8, false, "", "", 112⟩ rfl
  rw [show Try.prog.cellsOf 40 = 7 by kernel_rfl] at t8
  obtain ⟨y8, e8, k8⟩ := op_at H enc _ _ _ t8
  have z8 : (cs.drop (0 + 1 + 1 + 1 + 1 + 1 + 1 + 1 + 1)).take 7 = At.cs y8 := e8
  refine ⟨⟨⟨y0, y1, y2.l, y3.l, y4, y5, y6, y7.l, y8⟩, ⟨y2.p, y2.c, y3.p, y3.c, y7.p, y7.c⟩⟩, ?_, ⟨k2.vw, by have h1 := k2.cap; have h2 := k2.max; simp only [maxLen] at h2; simp only; omega, k3.vw, by have h1 := k3.cap; have h2 := k3.max; simp only [maxLen] at h2; simp only; omega, k7.b, k7.cap, by simp only; omega, by simp only; omega, k8⟩⟩
  rw [e]; simp only [chunks]
  rw [z0, z1, z2, z3, z4, z5, z6, z7, z8]; rfl
end Go.Proofs.Ytbbmhppkhcodfaa
namespace Go.Proofs.Ytbbmhppkhcodfaa
open Go.Sx
set_option linter.unusedVariables false
set_option linter.unusedSimpArgs false
set_option maxRecDepth 100000
set_option maxHeartbeats 4000000

end Go.Proofs.Ytbbmhppkhcodfaa
namespace Go.Proofs.Ytbbmhppkhcodfaa
open Go.Sx
set_option linter.unusedVariables false
set_option linter.unusedSimpArgs false
set_option maxRecDepth 100000
set_option maxHeartbeats 4000000

def Sq.cs (s : Slv UInt8) : List Value := [s.v]
theorem Sq.len (s : Slv UInt8) : (Sq.cs s).length = 1 := rfl
def In.cs (k : Int) : List Value := [.int .i64 k]
theorem In.len (k : Int) : (In.cs k).length = 1 := rfl
/-- the tree has a file of number 1, which holds w, and no other bytes -/
structure F1 (t : Tr) (r : Nd) (w : List UInt8) : Prop where
  wf : Wf t r
  fl : ∃ x, byId t.ns 1 = some x ∧ x.dir = false ∧ x.data = w
  by' : t.bytes = w.length
  le : w.length ≤ 700
/-- what a file holds behind a write -/
def put2 (w : List UInt8) (k : Nat) (y : List UInt8) : List UInt8 := if y.length = 0 then w else wr2 (szd w (max (k + y.length) w.length)) k y
/-- noughts are laid behind -/
def pad (w : List UInt8) (n : Nat) : List UInt8 := w ++ List.replicate (n - w.length) 0
end Go.Proofs.Ytbbmhppkhcodfaa
namespace Go.Proofs.Ytbbmhppkhcodfaa
open Go.Sx
set_option linter.unusedVariables false
set_option linter.unusedSimpArgs false
set_option maxRecDepth 100000
set_option maxHeartbeats 4000000

theorem text_at (pw : Nat) (p : Option Addr) (c : Nat) (l s : List UInt8) (hs : l.length + 4 + s.length ≤ 140737488355328) :
    Tri Try.prog 79 [.pointer (some ⟨pw, 0, none⟩), .string (str s)] (wr pw p c l) (fun r H' => ∃ p' c', r = .tuple #[] ∧ H' = wr pw p' c' (l ++ be s.length 4 ++ s)) := by
  have h := text_run pw p c l (str s) (by rw [str_size]; exact hs)
  rw [str_size] at h; exact h
theorem wbool_spec (pw : Nat) (p : Option Addr) (c : Nat) (l : List UInt8) (b : Bool) (hl : l.length ≤ 70368744177664) :
    Tri Try.prog 77 [.pointer (some ⟨pw, 0, none⟩), .bool b] (wr pw p c l) (fun v H' => ∃ p' c', v = .tuple #[] ∧ H' = wr pw p' c' (l ++ [b8 (if b then 1 else 0)])) := by
  cases b
  · skip
    refine tri_of_wp Try.func77 rfl Try.ntmps77 (by simp) ?_
    refine wp_seq' ?_
    refine wp_region' ?_
    refine ops_ro' rfl (ro_assign rfl) rfl ?_
    refine ops_nil ?_
    repeat (first | refine InBlock_normal ?_ | refine NoGoto_normal ?_ | refine Jump_normal ?_)
    refine Then_normal ?_
    refine wp_seq' ?_
    refine wp_seq' ?_
    refine wp_region' ?_
    refine ops_ro' rfl (ro_move rfl) rfl ?_
    refine ops_nil ?_
    repeat (first | refine InBlock_normal ?_ | refine NoGoto_normal ?_ | refine Jump_normal ?_)
    refine Then_normal ?_
    refine wp_condF rfl ?_
    refine wp_skip' ?_
    repeat (first | refine InBlock_normal ?_ | refine NoGoto_normal ?_ | refine Jump_normal ?_)
    refine Then_normal ?_
    refine wp_region' ?_
    refine ops_ro' rfl (ro_move rfl) rfl ?_
    refine ops_ro' rfl (ro_move rfl) rfl ?_
    refine ops_eff' rfl (eff_call Try.call101 rfl rfl (Split.cons 0 rfl (Split.cons 0 rfl (Split.nil _))) (byte_spec pw p c l 0 (by omega))) rfl ?_
    rintro _ H' ⟨_, ⟨p', c', rfl, rfl⟩, hH⟩
    simp only [List.cons_append, List.nil_append, List.eraseIdx_cons_zero, List.eraseIdx_cons_succ, List.set_cons_zero, List.set_cons_succ] at hH
    subst hH
    refine ops_nil ?_
    repeat (first | refine InBlock_normal ?_ | refine NoGoto_normal ?_ | refine Jump_normal ?_)
    refine done_normal (res0 rfl) ?_
    exact ⟨p', c', rfl, rfl⟩
  · skip
    refine tri_of_wp Try.func77 rfl Try.ntmps77 (by simp) ?_
    refine wp_seq' ?_
    refine wp_region' ?_
    refine ops_ro' rfl (ro_assign rfl) rfl ?_
    refine ops_nil ?_
    repeat (first | refine InBlock_normal ?_ | refine NoGoto_normal ?_ | refine Jump_normal ?_)
    refine Then_normal ?_
    refine wp_seq' ?_
    refine wp_seq' ?_
    refine wp_region' ?_
    refine ops_ro' rfl (ro_move rfl) rfl ?_
    refine ops_nil ?_
    repeat (first | refine InBlock_normal ?_ | refine NoGoto_normal ?_ | refine Jump_normal ?_)
    refine Then_normal ?_
    refine wp_condT rfl ?_
    refine wp_region' ?_
    refine ops_ro' rfl (ro_assign rfl) rfl ?_
    refine ops_nil ?_
    repeat (first | refine InBlock_normal ?_ | refine NoGoto_normal ?_ | refine Jump_normal ?_)
    refine Then_normal ?_
    refine wp_region' ?_
    refine ops_ro' rfl (ro_move rfl) rfl ?_
    refine ops_ro' rfl (ro_move rfl) rfl ?_
    refine ops_eff' rfl (eff_call Try.call101 rfl rfl (Split.cons 0 rfl (Split.cons 0 rfl (Split.nil _))) (byte_spec pw p c l 1 (by omega))) rfl ?_
    rintro _ H' ⟨_, ⟨p', c', rfl, rfl⟩, hH⟩
    simp only [List.cons_append, List.nil_append, List.eraseIdx_cons_zero, List.eraseIdx_cons_succ, List.set_cons_zero, List.set_cons_succ] at hH
    subst hH
    refine ops_nil ?_
    repeat (first | refine InBlock_normal ?_ | refine NoGoto_normal ?_ | refine Jump_normal ?_)
    refine done_normal (res0 rfl) ?_
    exact ⟨p', c', rfl, rfl⟩


theorem five_get (a : At) {i : Nat} (hi : i < (five a).length) : ([.int .u32 a.u, .int .u32 a.g, .int .u32 a.m, .int .u32 a.a, .int .u32 a.t] : List Value)[0 + i * 1]? = some (.int .u32 ((five a)[i] : Nat)) := by
  have e : ([.int .u32 a.u, .int .u32 a.g, .int .u32 a.m, .int .u32 a.a, .int .u32 a.t] : List Value) = (five a).map fun n : Nat => Value.int .u32 (n : Int) := rfl
  rw [e, Nat.zero_add, Nat.mul_one, List.getElem?_map, List.getElem?_eq_getElem hi]; rfl
theorem five_lt {a : At} (h : a.Ok) {i : Nat} (hi : i < (five a).length) : (five a)[i] < 4294967296 := by
  have : ∀ n ∈ five a, n < 4294967296 := by
    intro n hn
    simp only [five, List.mem_cons, List.not_mem_nil, or_false] at hn
    rcases hn with rfl | rfl | rfl | rfl | rfl
    · exact h.u
    · exact h.g
    · exact h.m
    · exact h.a
    · exact h.t
  exact this _ (List.getElem_mem hi)
theorem flat_take_le (f : Nd → List UInt8) (l : List Nd) (i : Nat) : ((l.take i).flatMap f).length ≤ (l.flatMap f).length := by
  conv => rhs; rw [← List.take_append_drop i l, List.flatMap_append, List.length_append]
  omega
def PutOk (t : Tr) (n : Nat) : Prop := ∀ (V : HProp), Tv V t → ∀ x ∈ t.ns, Deep t.ns n x → ∀ (pw : Nat) (p : Option Addr) (c : Nat) (l : List UInt8), l.length + (encN t.ns n x).length ≤ 1000000000000 →
  Tri Try.prog 47 [.pointer (some ⟨pw, 0, none⟩), .pointer (some ⟨x.blk, 0, none⟩)] (wr pw p c l ++ [V]) (fun v H' => ∃ K, (∃ p' c', v = .tuple #[] ∧ K = wr pw p' c' (l ++ encN t.ns n x)) ∧ H' = K ++ [V])

theorem put_step {t : Tr} {r : Nd} (hW : Wf t r) (hN : t.next ≤ 9223372036854775807) (n : Nat) (IH : PutOk t n) : PutOk t (n + 1) := fun V hT x hx hDp pw p c l hl => by
  have hxa := (hW.a x hx).1
  have hxl := wf_dl hW x hx
  have hkl := kids_le hW.kd hx
  have hfew := hW.few
  have hlt := hW.lt x hx
  cases hd : x.dir with
  | true =>
    refine tri_of_wpS Try.func47 rfl Try.ntmps47 (by simp) ?_
    refine wp_seq' ?_
    refine wp_region' ?_
    refine ops_ro' rfl (ro_move rfl) rfl ?_
    refine ops_ro' rfl (ro_move rfl) rfl ?_
    refine ops_ro' rfl (ro_nilCheck rfl) rfl ?_
    refine ops_ro' rfl (ro_fieldAddr fa85_0 rfl) rfl ?_
    refine ops_ro' rfl (ro_load sc3 rfl (Rd.pick 2 rfl ((hT.nd x hx 0 _ rfl)))) rfl ?_
    refine ops_ro' rfl (ro_conv Try.underlying3 Try.underlying34 rfl (wrap_u64_in (by omega) (by omega))) rfl ?_
    refine ops_eff' rfl (eff_call Try.call46 rfl rfl (by repeat (first | exact Split.nil _ | apply Split.cons 0 rfl | apply Split.cons 1 rfl | apply Split.cons 2 rfl | apply Split.cons 3 rfl | apply Split.cons 4 rfl | apply Split.cons 5 rfl | apply Split.cons 6 rfl | apply Split.cons 7 rfl | apply Split.cons 8 rfl | apply Split.cons 9 rfl | apply Split.cons 10 rfl | apply Split.cons 11 rfl)) (u64_at pw p c l x.id _ rfl (by omega))) rfl ?_
    rintro _ H' ⟨_, ⟨p1, c1, rfl, rfl⟩, hH⟩
    simp only [List.cons_append, List.nil_append, List.eraseIdx_cons_zero, List.eraseIdx_cons_succ, List.set_cons_zero, List.set_cons_succ] at hH
    subst hH
    generalize hl1 : l ++ be x.id 8 = l1
    have hn1 : l1.length = l.length + 8 := by rw [← hl1, List.length_append, be_length]
    refine ops_nil ?_
    refine Then_normal ?_
    refine wp_seq' ?_
    refine wp_region' ?_
    refine ops_ro' rfl (ro_move rfl) rfl ?_
    refine ops_ro' rfl (ro_move rfl) rfl ?_
    refine ops_ro' rfl (ro_nilCheck rfl) rfl ?_
    refine ops_ro' rfl (ro_fieldAddr fa85_1 rfl) rfl ?_
    refine ops_ro' rfl (ro_load sc4 rfl (Rd.pick 2 rfl ((hT.nd x hx 1 _ rfl)))) rfl ?_
    refine ops_eff' rfl (eff_call Try.call77 rfl rfl (by repeat (first | exact Split.nil _ | apply Split.cons 0 rfl | apply Split.cons 1 rfl | apply Split.cons 2 rfl | apply Split.cons 3 rfl | apply Split.cons 4 rfl | apply Split.cons 5 rfl | apply Split.cons 6 rfl | apply Split.cons 7 rfl | apply Split.cons 8 rfl | apply Split.cons 9 rfl | apply Split.cons 10 rfl | apply Split.cons 11 rfl)) (wbool_spec pw p1 c1 l1 x.dir (by omega))) rfl ?_
    rintro _ H' ⟨_, ⟨p2, c2, rfl, rfl⟩, hH⟩
    simp only [List.cons_append, List.nil_append, List.eraseIdx_cons_zero, List.eraseIdx_cons_succ, List.set_cons_zero, List.set_cons_succ] at hH
    subst hH
    generalize hl2 : l1 ++ [b8 (if x.dir then 1 else 0)] = l2
    have hn2 : l2.length = l.length + 9 := by rw [← hl2, List.length_append, hn1]; rfl
    refine ops_nil ?_
    refine Then_normal ?_
    refine wp_seq' ?_
    refine wp_seq' ?_
    refine wp_draw 28 (by kernel_rfl) (Split.cons 2 rfl (Split.nil _)) ?_
    refine any_ro' (i := 0) (by kernel_rfl) rfl rfl (ro_move rfl) rfl (fun _ _ _ h => h) ?_
    refine any_ro' (i := 1) (by kernel_rfl) rfl rfl (ro_nilCheck rfl) rfl (fun _ _ _ h => h) ?_
    refine any_ro' (i := 2) (by kernel_rfl) rfl rfl (ro_fieldAddr fa85_5 rfl) rfl (fun _ _ _ h => h) ?_
    refine any_ro' (i := 3) (by kernel_rfl) rfl rfl (ro_fieldAddr fa40_2 rfl) rfl (fun _ _ _ h => h) ?_
    refine any_ro' (i := 4) (by kernel_rfl) rfl rfl (ro_load sc37 rfl (Rd.pick 0 rfl ((nd_at (hT.nd x hx) 2 _ rfl)))) rfl (fun _ _ _ h => h) ?_
    refine any_ro' (i := 5) (by kernel_rfl) rfl rfl (ro_move rfl) rfl (fun _ _ _ h => h) ?_
    refine any_ro' (i := 6) (by kernel_rfl) rfl rfl (ro_nilCheck rfl) rfl (fun _ _ _ h => h) ?_
    refine any_ro' (i := 7) (by kernel_rfl) rfl rfl (ro_fieldAddr fa85_5 rfl) rfl (fun _ _ _ h => h) ?_
    refine any_ro' (i := 8) (by kernel_rfl) rfl rfl (ro_fieldAddr fa40_3 rfl) rfl (fun _ _ _ h => h) ?_
    refine any_ro' (i := 9) (by kernel_rfl) rfl rfl (ro_load sc37 rfl (Rd.pick 0 rfl ((nd_at (hT.nd x hx) 3 _ rfl)))) rfl (fun _ _ _ h => h) ?_
    refine any_ro' (i := 10) (by kernel_rfl) rfl rfl (ro_move rfl) rfl (fun _ _ _ h => h) ?_
    refine any_ro' (i := 11) (by kernel_rfl) rfl rfl (ro_nilCheck rfl) rfl (fun _ _ _ h => h) ?_
    refine any_ro' (i := 12) (by kernel_rfl) rfl rfl (ro_fieldAddr fa85_5 rfl) rfl (fun _ _ _ h => h) ?_
    refine any_ro' (i := 13) (by kernel_rfl) rfl rfl (ro_fieldAddr fa40_4 rfl) rfl (fun _ _ _ h => h) ?_
    refine any_ro' (i := 14) (by kernel_rfl) rfl rfl (ro_load sc37 rfl (Rd.pick 0 rfl ((nd_at (hT.nd x hx) 4 _ rfl)))) rfl (fun _ _ _ h => h) ?_
    refine any_ro' (i := 15) (by kernel_rfl) rfl rfl (ro_move rfl) rfl (fun _ _ _ h => h) ?_
    refine any_ro' (i := 16) (by kernel_rfl) rfl rfl (ro_nilCheck rfl) rfl (fun _ _ _ h => h) ?_
    refine any_ro' (i := 17) (by kernel_rfl) rfl rfl (ro_fieldAddr fa85_5 rfl) rfl (fun _ _ _ h => h) ?_
    refine any_ro' (i := 18) (by kernel_rfl) rfl rfl (ro_fieldAddr fa40_5 rfl) rfl (fun _ _ _ h => h) ?_
    refine any_ro' (i := 19) (by kernel_rfl) rfl rfl (ro_load sc37 rfl (Rd.pick 0 rfl ((nd_at (hT.nd x hx) 5 _ rfl)))) rfl (fun _ _ _ h => h) ?_
    refine any_ro' (i := 20) (by kernel_rfl) rfl rfl (ro_move rfl) rfl (fun _ _ _ h => h) ?_
    refine any_ro' (i := 21) (by kernel_rfl) rfl rfl (ro_nilCheck rfl) rfl (fun _ _ _ h => h) ?_
    refine any_ro' (i := 22) (by kernel_rfl) rfl rfl (ro_fieldAddr fa85_5 rfl) rfl (fun _ _ _ h => h) ?_
    refine any_ro' (i := 23) (by kernel_rfl) rfl rfl (ro_fieldAddr fa40_6 rfl) rfl (fun _ _ _ h => h) ?_
    refine any_ro' (i := 24) (by kernel_rfl) rfl rfl (ro_load sc37 rfl (Rd.pick 0 rfl ((nd_at (hT.nd x hx) 6 _ rfl)))) rfl (fun _ _ _ h => h) ?_
    refine any_ro' (i := 27) (by kernel_rfl) rfl rfl (ro_move rfl) rfl (fun _ _ _ h => h) ?_
    refine any_eff' (i := 25) (by kernel_rfl) rfl rfl (eff_lit sl134 rfl (sbld (cs := [_, _, _, _, _]) [(.int .u32 0), (.int .u32 0), (.int .u32 0), (.int .u32 0), (.int .u32 0)] sl134 (by decide) (by kernel_rfl) rfl) rfl (by decide)) rfl ?_
    rintro _ _ ⟨b46, rfl, rfl⟩
    refine any_ro' (i := 26) (by kernel_rfl) rfl rfl (ro_sliceLen Try.underlying134 rfl) rfl (fun _ _ _ h => h) ?_
    refine any_done (by kernel_rfl) ?_
    refine Then_normal ?_
    refine wp_block' ?_
    refine wp_loopK 3 (fun m Δ LL => ∃ (i : Nat) (z : List UInt8) (p3 : Option Addr) (c3 : Nat), (i + m = (five x.a).length ∧ z = l2 ++ enc4 ((five x.a).take i)) ∧ Δ = [(48, .int .i64 (i : Nat))] ∧ LL = [own pw (.cells [Value.slice p3 (z).length c3].toArray 131 (0, 0)), row 5 1 (.slice p3 (z).length c3) (z).length (cel (z)), row 37 1 (.slice (some ⟨b46, 0, none⟩) 5 5) 5 [.int .u32 x.a.u, .int .u32 x.a.g, .int .u32 x.a.m, .int .u32 x.a.a, .int .u32 x.a.t], V]) (m := (five x.a).length) (Has.cons (k := 0) rfl (Has.cons (k := 1) rfl (Has.cons (k := 46) rfl (Has.cons (k := 47) rfl (Has.nil _))))) (kept ⟨0, l2, p2, c2, ⟨by omega, by simp [enc4]⟩, rfl, rfl⟩ (by repeat (first | exact Has.nil _ | refine Has.cons rfl ?_)) (by repeat (first | exact Has.nil _ | refine Has.cons rfl ?_)) (by repeat (first | exact SubH.nil _ | refine SubH.cons 0 rfl ?_ | refine SubH.cons 1 rfl ?_ | refine SubH.cons 2 rfl ?_ | refine SubH.cons 3 rfl ?_ | refine SubH.cons 4 rfl ?_ | refine SubH.cons 5 rfl ?_ | refine SubH.cons 6 rfl ?_ | refine SubH.cons 7 rfl ?_ | refine SubH.cons 8 rfl ?_ | refine SubH.cons 9 rfl ?_ | refine SubH.cons 10 rfl ?_ | refine SubH.cons 11 rfl ?_ | refine SubH.cons 12 rfl ?_ | refine SubH.cons 13 rfl ?_ | refine SubH.rown ?_))) ?_
    rintro m Δ LL ⟨i, z, p3, c3, ⟨hm, hz⟩, rfl, rfl⟩
    simp only [List.cons_append, List.nil_append]
    refine wp_seq' ?_
    refine wp_region' ?_
    refine ops_ro' rfl (ro_lss rfl rfl rfl) rfl ?_
    refine ops_nil ?_
    refine Then_normal ?_
    refine wp_seq' ?_
    refine wp_cond' rfl (fun hc49 => ?_) (fun hc49 => ?_)
    · replace hc49 := of_decide_eq_true hc49
      have e5 : (five x.a).length = 5 := rfl
      have hi : i < (five x.a).length := by omega
      have h4 := five_lt hxa hi
      have he := enc4_len ((five x.a).take i)
      have hel : z.length ≤ l.length + 29 := by rw [hz, List.length_append, he, List.length_take]; omega
      refine wp_skip' ?_
      refine Then_normal ?_
      refine wp_seq' ?_
      refine wp_block' ?_
      refine wp_seq' ?_
      refine wp_region' ?_
      refine ops_ro' rfl (ro_indexSlice sl134 rfl rfl rfl (by omega)) rfl ?_
      refine ops_ro' rfl (ro_load sc37 rfl (Rd.pick 2 rfl (Rd.row (five_get x.a hi)))) rfl ?_
      refine ops_ro' rfl (ro_assign rfl) rfl ?_
      refine ops_nil ?_
      refine Then_normal ?_
      refine wp_region' ?_
      refine ops_ro' rfl (ro_move rfl) rfl ?_
      refine ops_ro' rfl (ro_move rfl) rfl ?_
      refine ops_eff' rfl (eff_call Try.call78 rfl rfl (by repeat (first | exact Split.nil _ | apply Split.cons 0 rfl | apply Split.cons 1 rfl | apply Split.cons 2 rfl | apply Split.cons 3 rfl | apply Split.cons 4 rfl | apply Split.cons 5 rfl | apply Split.cons 6 rfl | apply Split.cons 7 rfl | apply Split.cons 8 rfl | apply Split.cons 9 rfl | apply Split.cons 10 rfl | apply Split.cons 11 rfl)) (u32_at pw p3 c3 z (five x.a)[i] _ rfl h4 (by omega))) rfl ?_
      rintro _ H' ⟨_, ⟨p4, c4, rfl, rfl⟩, hH⟩
      simp only [List.cons_append, List.nil_append, List.eraseIdx_cons_zero, List.eraseIdx_cons_succ, List.set_cons_zero, List.set_cons_succ] at hH
      subst hH
      refine ops_nil ?_
      refine InBlock_normal ?_
      refine Then_normal ?_
      refine wp_region' ?_
      refine ops_ro' rfl (ro_add rfl rfl (wrap_inc (by omega))) rfl ?_
      refine ops_ro' rfl (ro_move rfl) rfl ?_
      refine ops_nil ?_
      refine Then_normal ?_
      refine back (m - 1) (by omega) (kept ⟨i + 1, z ++ be (five x.a)[i] 4, p4, c4, ⟨by omega, by rw [hz, enc4_take _ hi, List.append_assoc]⟩, rfl, rfl⟩ ?_ ?_ ?_)
      · exact (by repeat (first | exact Has.nil _ | refine Has.cons rfl ?_))
      · exact (by repeat (first | exact Has.nil _ | refine Has.cons rfl ?_))
      · exact SubH.refl _
    · replace hc49 := of_decide_eq_false hc49
      have e5 : (five x.a).length = 5 := rfl
      have hi : (five x.a).take i = five x.a := List.take_of_length_le (by omega)
      rw [hi] at hz
      have hzh : z = l ++ hdr x := by rw [hz, ← hl2, ← hl1]; simp only [hdr, List.append_assoc]
      have hzl : z.length = l.length + 29 := by rw [hzh, List.length_append, hdr_len]
      clear hz
      refine wp_exit' ?_
      refine Then_exit ?_
      refine Then_exit ?_
      refine InBlock_here ?_
      refine Then_normal ?_
      refine wp_seq' ?_
      refine wp_seq' ?_
      refine wp_region' ?_
      refine ops_ro' rfl (ro_move rfl) rfl ?_
      refine ops_ro' rfl (ro_nilCheck rfl) rfl ?_
      refine ops_ro' rfl (ro_fieldAddr fa85_1 rfl) rfl ?_
      refine ops_ro' rfl (ro_load sc4 rfl (Rd.pick 3 rfl ((hT.nd x hx 1 _ rfl)))) rfl ?_
      rw [hd]
      refine ops_ro' rfl (ro_not rfl rfl) rfl ?_
      try simp only [Bool.not_true, Bool.not_false]
      refine ops_nil ?_
      refine Then_normal ?_
      refine wp_condF rfl ?_
      refine wp_skip' ?_
      refine Then_normal ?_
      refine wp_seq' ?_
      refine wp_region' ?_
      refine ops_ro' rfl (ro_move rfl) rfl ?_
      refine ops_ro' rfl (ro_move rfl) rfl ?_
      refine ops_ro' rfl (ro_nilCheck rfl) rfl ?_
      refine ops_ro' rfl (ro_fieldAddr fa85_3 rfl) rfl ?_
      refine ops_ro' rfl (ro_load sc82 rfl (Rd.pick 3 rfl ((hT.nd x hx 3 _ rfl)))) rfl ?_
      refine ops_ro' rfl (ro_sliceLen Try.underlying82 rfl) rfl ?_
      refine ops_ro' rfl (ro_conv Try.underlying3 Try.underlying37 rfl (wrap_u32_in (by omega) (by omega))) rfl ?_
      refine ops_eff' rfl (eff_call Try.call78 rfl rfl (by repeat (first | exact Split.nil _ | apply Split.cons 0 rfl | apply Split.cons 1 rfl | apply Split.cons 2 rfl | apply Split.cons 3 rfl | apply Split.cons 4 rfl | apply Split.cons 5 rfl | apply Split.cons 6 rfl | apply Split.cons 7 rfl | apply Split.cons 8 rfl | apply Split.cons 9 rfl | apply Split.cons 10 rfl | apply Split.cons 11 rfl)) (u32_at pw p3 c3 z x.kids.length _ rfl (by omega) (by omega))) rfl ?_
      rintro _ H' ⟨_, ⟨p5, c5, rfl, rfl⟩, hH⟩
      simp only [List.cons_append, List.nil_append, List.eraseIdx_cons_zero, List.eraseIdx_cons_succ, List.set_cons_zero, List.set_cons_succ] at hH
      subst hH
      generalize hl6 : z ++ be x.kids.length 4 = l6
      have hn6 : l6.length = l.length + 33 := by rw [← hl6, List.length_append, be_length]; omega
      refine ops_nil ?_
      refine Then_normal ?_
      refine wp_seq' ?_
      refine wp_region' ?_
      refine ops_ro' rfl (ro_move rfl) rfl ?_
      refine ops_ro' rfl (ro_nilCheck rfl) rfl ?_
      refine ops_ro' rfl (ro_fieldAddr fa85_3 rfl) rfl ?_
      refine ops_ro' rfl (ro_load sc82 rfl (Rd.pick 3 rfl ((hT.nd x hx 3 _ rfl)))) rfl ?_
      refine ops_ro' rfl (ro_sliceLen Try.underlying82 rfl) rfl ?_
      refine ops_ro' rfl (ro_move rfl) rfl ?_
      refine ops_nil ?_
      refine Then_normal ?_
      refine wp_block' ?_
      refine wp_loopK 11 (fun m Δ LL => ∃ (i : Nat) (z6 : List UInt8) (p6 : Option Addr) (c6 : Nat), (i + m = x.kids.length ∧ z6 = l6 ++ ((kidsN t.ns x).take i).flatMap (kidB t.ns n)) ∧ Δ = [(81, .int .i64 (i : Nat))] ∧ LL = [own pw (.cells [Value.slice p6 (z6).length c6].toArray 131 (0, 0)), row 5 1 (.slice p6 (z6).length c6) (z6).length (cel (z6)), V]) (m := x.kids.length) (Has.cons (k := 0) rfl (Has.cons (k := 79) rfl (Has.cons (k := 80) rfl (Has.nil _)))) (kept ⟨0, l6, p5, c5, ⟨by omega, by simp⟩, rfl, rfl⟩ (by repeat (first | exact Has.nil _ | refine Has.cons rfl ?_)) (by repeat (first | exact Has.nil _ | refine Has.cons rfl ?_)) (by repeat (first | exact SubH.nil _ | refine SubH.cons 0 rfl ?_ | refine SubH.cons 1 rfl ?_ | refine SubH.cons 2 rfl ?_ | refine SubH.cons 3 rfl ?_ | refine SubH.cons 4 rfl ?_ | refine SubH.cons 5 rfl ?_ | refine SubH.cons 6 rfl ?_ | refine SubH.cons 7 rfl ?_ | refine SubH.cons 8 rfl ?_ | refine SubH.cons 9 rfl ?_ | refine SubH.cons 10 rfl ?_ | refine SubH.cons 11 rfl ?_ | refine SubH.cons 12 rfl ?_ | refine SubH.cons 13 rfl ?_ | refine SubH.rown ?_))) ?_
      rintro m Δ LL ⟨i, z6, p6, c6, ⟨hm, hz6⟩, rfl, rfl⟩
      simp only [List.cons_append, List.nil_append]
      refine wp_seq' ?_
      refine wp_region' ?_
      refine ops_ro' rfl (ro_lss rfl rfl rfl) rfl ?_
      refine ops_nil ?_
      refine Then_normal ?_
      refine wp_seq' ?_
      refine wp_cond' rfl (fun hc82 => ?_) (fun hc82 => ?_)
      · replace hc82 := of_decide_eq_true hc82
        have hi : i < x.kids.length := by omega
        obtain ⟨y, hy, hyb, hyp, hky⟩ := kidsN_at hW.kd hx hi
        have hyk : y ∈ kidsN t.ns x := List.mem_of_getElem? hky
        have hyn : y.name.length ≤ 30 := by
          rcases hW.nm y hy with h | h
          · exact absurd h (kid_not_root hW hx hyk)
          · exact ptOk_len h
        have hyd := hDp y hyk
        have hz6l : z6.length + 4 + y.name.length + (encN t.ns n y).length ≤ l.length + (encN t.ns (n + 1) x).length := by
          have h1 := flat_take_le (kidB t.ns n) (kidsN t.ns x) (i + 1)
          have h3 : (kidB t.ns n y).length = 4 + y.name.length + (encN t.ns n y).length := by simp only [kidB, List.length_append, be_length]
          have h4 := hdr_len x
          rw [kidB_snoc hky, List.length_append] at h1
          rw [encN_dir hd, hz6]
          simp only [List.length_append, be_length]
          omega
        have hxk := hT.kids x hx
        refine wp_know (fun w F s => vw_ptr (Vw.pick (H := [_, _, V]) 2 rfl hxk) s (by omega)) ?_
        rintro ⟨b1, o1, hkp⟩
        rw [hkp] at hxk
        refine wp_skip' ?_
        refine Then_normal ?_
        refine wp_seq' ?_
        refine wp_block' ?_
        refine wp_seq' ?_
        refine wp_region' ?_
        rw [hkp]
        refine ops_ro' rfl (ro_indexSlice sl82 rfl rfl rfl (by omega)) rfl ?_
        refine ops_ro' rfl (ro_load sc76 rfl (Rd.pick 2 rfl (Rd.elem (j := 0) (vw_rdn hxk) Pq.len (List.getElem?_eq_getElem hi) rfl))) rfl ?_
        rw [← hyb]
        refine ops_ro' rfl (ro_assign rfl) rfl ?_
        refine ops_nil ?_
        refine Then_normal ?_
        refine wp_seq' ?_
        refine wp_region' ?_
        refine ops_ro' rfl (ro_move rfl) rfl ?_
        refine ops_ro' rfl (ro_move rfl) rfl ?_
        refine ops_ro' rfl (ro_nilCheck rfl) rfl ?_
        refine ops_ro' rfl (ro_fieldAddr fa85_2 rfl) rfl ?_
        refine ops_ro' rfl (ro_load sc9 rfl (Rd.pick 2 rfl ((hT.nd y hy 2 _ rfl)))) rfl ?_
        refine ops_eff' rfl (eff_call Try.call79 rfl rfl (by repeat (first | exact Split.nil _ | apply Split.cons 0 rfl | apply Split.cons 1 rfl | apply Split.cons 2 rfl | apply Split.cons 3 rfl | apply Split.cons 4 rfl | apply Split.cons 5 rfl | apply Split.cons 6 rfl | apply Split.cons 7 rfl | apply Split.cons 8 rfl | apply Split.cons 9 rfl | apply Split.cons 10 rfl | apply Split.cons 11 rfl)) (text_at pw p6 c6 z6 y.name (by omega))) rfl ?_
        rintro _ H' ⟨_, ⟨p7, c7, rfl, rfl⟩, hH⟩
        simp only [List.cons_append, List.nil_append, List.eraseIdx_cons_zero, List.eraseIdx_cons_succ, List.set_cons_zero, List.set_cons_succ] at hH
        subst hH
        generalize hz7 : z6 ++ be y.name.length 4 ++ y.name = z7
        have hn7 : z7.length = z6.length + 4 + y.name.length := by rw [← hz7]; simp only [List.length_append, be_length]
        refine ops_nil ?_
        refine Then_normal ?_
        refine wp_region' ?_
        refine ops_ro' rfl (ro_move rfl) rfl ?_
        refine ops_ro' rfl (ro_move rfl) rfl ?_
        refine ops_eff' rfl (eff_call Try.call47 rfl rfl (by repeat (first | exact Split.nil _ | apply Split.cons 0 rfl | apply Split.cons 1 rfl | apply Split.cons 2 rfl | apply Split.cons 3 rfl | apply Split.cons 4 rfl | apply Split.cons 5 rfl | apply Split.cons 6 rfl | apply Split.cons 7 rfl | apply Split.cons 8 rfl | apply Split.cons 9 rfl | apply Split.cons 10 rfl | apply Split.cons 11 rfl)) (IH V hT y hy hyd pw p7 c7 z7 (by omega))) rfl ?_
        rintro _ H' ⟨_, ⟨_, ⟨p8, c8, rfl, rfl⟩, rfl⟩, hH⟩
        simp only [List.cons_append, List.nil_append, List.eraseIdx_cons_zero, List.eraseIdx_cons_succ, List.set_cons_zero, List.set_cons_succ] at hH
        subst hH
        refine ops_nil ?_
        refine InBlock_normal ?_
        refine Then_normal ?_
        refine wp_region' ?_
        refine ops_ro' rfl (ro_add rfl rfl (wrap_inc (by omega))) rfl ?_
        refine ops_ro' rfl (ro_move rfl) rfl ?_
        refine ops_nil ?_
        refine Then_normal ?_
        refine back (m - 1) (by omega) (kept ⟨i + 1, z7 ++ encN t.ns n y, p8, c8, ⟨by omega, by rw [kidB_snoc hky, ← List.append_assoc, ← hz6, ← hz7]; simp only [kidB, List.append_assoc]⟩, rfl, rfl⟩ ?_ ?_ ?_)
        · exact (by repeat (first | exact Has.nil _ | refine Has.cons rfl ?_))
        · exact (by repeat (first | exact Has.nil _ | refine Has.cons rfl ?_))
        · exact SubH.refl _
      · replace hc82 := of_decide_eq_false hc82
        refine wp_exit' ?_
        refine Then_exit ?_
        refine Then_exit ?_
        refine InBlock_here ?_
        have hfin : z6 = l ++ encN t.ns (n + 1) x := by rw [encN_dir hd, ← List.append_assoc, ← List.append_assoc, ← hzh, hl6, hz6, List.take_of_length_le (by rw [kidsN_len hW.kd hx]; omega)]
        rw [hfin]
        refine' doneS_normal (res0 rfl) ?_ ?_
        rotate_left 1
        exact ⟨_, ⟨p6, c6, rfl, rfl⟩, rfl⟩
        exact SubH.refl _
  | false =>
    refine tri_of_wpS Try.func47 rfl Try.ntmps47 (by simp) ?_
    refine wp_seq' ?_
    refine wp_region' ?_
    refine ops_ro' rfl (ro_move rfl) rfl ?_
    refine ops_ro' rfl (ro_move rfl) rfl ?_
    refine ops_ro' rfl (ro_nilCheck rfl) rfl ?_
    refine ops_ro' rfl (ro_fieldAddr fa85_0 rfl) rfl ?_
    refine ops_ro' rfl (ro_load sc3 rfl (Rd.pick 2 rfl ((hT.nd x hx 0 _ rfl)))) rfl ?_
    refine ops_ro' rfl (ro_conv Try.underlying3 Try.underlying34 rfl (wrap_u64_in (by omega) (by omega))) rfl ?_
    refine ops_eff' rfl (eff_call Try.call46 rfl rfl (by repeat (first | exact Split.nil _ | apply Split.cons 0 rfl | apply Split.cons 1 rfl | apply Split.cons 2 rfl | apply Split.cons 3 rfl | apply Split.cons 4 rfl | apply Split.cons 5 rfl | apply Split.cons 6 rfl | apply Split.cons 7 rfl | apply Split.cons 8 rfl | apply Split.cons 9 rfl | apply Split.cons 10 rfl | apply Split.cons 11 rfl)) (u64_at pw p c l x.id _ rfl (by omega))) rfl ?_
    rintro _ H' ⟨_, ⟨p1, c1, rfl, rfl⟩, hH⟩
    simp only [List.cons_append, List.nil_append, List.eraseIdx_cons_zero, List.eraseIdx_cons_succ, List.set_cons_zero, List.set_cons_succ] at hH
    subst hH
    generalize hl1 : l ++ be x.id 8 = l1
    have hn1 : l1.length = l.length + 8 := by rw [← hl1, List.length_append, be_length]
    refine ops_nil ?_
    refine Then_normal ?_
    refine wp_seq' ?_
    refine wp_region' ?_
    refine ops_ro' rfl (ro_move rfl) rfl ?_
    refine ops_ro' rfl (ro_move rfl) rfl ?_
    refine ops_ro' rfl (ro_nilCheck rfl) rfl ?_
    refine ops_ro' rfl (ro_fieldAddr fa85_1 rfl) rfl ?_
    refine ops_ro' rfl (ro_load sc4 rfl (Rd.pick 2 rfl ((hT.nd x hx 1 _ rfl)))) rfl ?_
    refine ops_eff' rfl (eff_call Try.call77 rfl rfl (by repeat (first | exact Split.nil _ | apply Split.cons 0 rfl | apply Split.cons 1 rfl | apply Split.cons 2 rfl | apply Split.cons 3 rfl | apply Split.cons 4 rfl | apply Split.cons 5 rfl | apply Split.cons 6 rfl | apply Split.cons 7 rfl | apply Split.cons 8 rfl | apply Split.cons 9 rfl | apply Split.cons 10 rfl | apply Split.cons 11 rfl)) (wbool_spec pw p1 c1 l1 x.dir (by omega))) rfl ?_
    rintro _ H' ⟨_, ⟨p2, c2, rfl, rfl⟩, hH⟩
    simp only [List.cons_append, List.nil_append, List.eraseIdx_cons_zero, List.eraseIdx_cons_succ, List.set_cons_zero, List.set_cons_succ] at hH
    subst hH
    generalize hl2 : l1 ++ [b8 (if x.dir then 1 else 0)] = l2
    have hn2 : l2.length = l.length + 9 := by rw [← hl2, List.length_append, hn1]; rfl
    refine ops_nil ?_
    refine Then_normal ?_
    refine wp_seq' ?_
    refine wp_seq' ?_
    refine wp_draw 28 (by kernel_rfl) (Split.cons 2 rfl (Split.nil _)) ?_
    refine any_ro' (i := 0) (by kernel_rfl) rfl rfl (ro_move rfl) rfl (fun _ _ _ h => h) ?_
    refine any_ro' (i := 1) (by kernel_rfl) rfl rfl (ro_nilCheck rfl) rfl (fun _ _ _ h => h) ?_
    refine any_ro' (i := 2) (by kernel_rfl) rfl rfl (ro_fieldAddr fa85_5 rfl) rfl (fun _ _ _ h => h) ?_
    refine any_ro' (i := 3) (by kernel_rfl) rfl rfl (ro_fieldAddr fa40_2 rfl) rfl (fun _ _ _ h => h) ?_
    refine any_ro' (i := 4) (by kernel_rfl) rfl rfl (ro_load sc37 rfl (Rd.pick 0 rfl ((nd_at (hT.nd x hx) 2 _ rfl)))) rfl (fun _ _ _ h => h) ?_
    refine any_ro' (i := 5) (by kernel_rfl) rfl rfl (ro_move rfl) rfl (fun _ _ _ h => h) ?_
    refine any_ro' (i := 6) (by kernel_rfl) rfl rfl (ro_nilCheck rfl) rfl (fun _ _ _ h => h) ?_
    refine any_ro' (i := 7) (by kernel_rfl) rfl rfl (ro_fieldAddr fa85_5 rfl) rfl (fun _ _ _ h => h) ?_
    refine any_ro' (i := 8) (by kernel_rfl) rfl rfl (ro_fieldAddr fa40_3 rfl) rfl (fun _ _ _ h => h) ?_
    refine any_ro' (i := 9) (by kernel_rfl) rfl rfl (ro_load sc37 rfl (Rd.pick 0 rfl ((nd_at (hT.nd x hx) 3 _ rfl)))) rfl (fun _ _ _ h => h) ?_
    refine any_ro' (i := 10) (by kernel_rfl) rfl rfl (ro_move rfl) rfl (fun _ _ _ h => h) ?_
    refine any_ro' (i := 11) (by kernel_rfl) rfl rfl (ro_nilCheck rfl) rfl (fun _ _ _ h => h) ?_
    refine any_ro' (i := 12) (by kernel_rfl) rfl rfl (ro_fieldAddr fa85_5 rfl) rfl (fun _ _ _ h => h) ?_
    refine any_ro' (i := 13) (by kernel_rfl) rfl rfl (ro_fieldAddr fa40_4 rfl) rfl (fun _ _ _ h => h) ?_
    refine any_ro' (i := 14) (by kernel_rfl) rfl rfl (ro_load sc37 rfl (Rd.pick 0 rfl ((nd_at (hT.nd x hx) 4 _ rfl)))) rfl (fun _ _ _ h => h) ?_
    refine any_ro' (i := 15) (by kernel_rfl) rfl rfl (ro_move rfl) rfl (fun _ _ _ h => h) ?_
    refine any_ro' (i := 16) (by kernel_rfl) rfl rfl (ro_nilCheck rfl) rfl (fun _ _ _ h => h) ?_
    refine any_ro' (i := 17) (by kernel_rfl) rfl rfl (ro_fieldAddr fa85_5 rfl) rfl (fun _ _ _ h => h) ?_
    refine any_ro' (i := 18) (by kernel_rfl) rfl rfl (ro_fieldAddr fa40_5 rfl) rfl (fun _ _ _ h => h) ?_
    refine any_ro' (i := 19) (by kernel_rfl) rfl rfl (ro_load sc37 rfl (Rd.pick 0 rfl ((nd_at (hT.nd x hx) 5 _ rfl)))) rfl (fun _ _ _ h => h) ?_
    refine any_ro' (i := 20) (by kernel_rfl) rfl rfl (ro_move rfl) rfl (fun _ _ _ h => h) ?_
    refine any_ro' (i := 21) (by kernel_rfl) rfl rfl (ro_nilCheck rfl) rfl (fun _ _ _ h => h) ?_
    refine any_ro' (i := 22) (by kernel_rfl) rfl rfl (ro_fieldAddr fa85_5 rfl) rfl (fun _ _ _ h => h) ?_
    refine any_ro' (i := 23) (by kernel_rfl) rfl rfl (ro_fieldAddr fa40_6 rfl) rfl (fun _ _ _ h => h) ?_
    refine any_ro' (i := 24) (by kernel_rfl) rfl rfl (ro_load sc37 rfl (Rd.pick 0 rfl ((nd_at (hT.nd x hx) 6 _ rfl)))) rfl (fun _ _ _ h => h) ?_
    refine any_ro' (i := 27) (by kernel_rfl) rfl rfl (ro_move rfl) rfl (fun _ _ _ h => h) ?_
    refine any_eff' (i := 25) (by kernel_rfl) rfl rfl (eff_lit sl134 rfl (sbld (cs := [_, _, _, _, _]) [(.int .u32 0), (.int .u32 0), (.int .u32 0), (.int .u32 0), (.int .u32 0)] sl134 (by decide) (by kernel_rfl) rfl) rfl (by decide)) rfl ?_
    rintro _ _ ⟨b46, rfl, rfl⟩
    refine any_ro' (i := 26) (by kernel_rfl) rfl rfl (ro_sliceLen Try.underlying134 rfl) rfl (fun _ _ _ h => h) ?_
    refine any_done (by kernel_rfl) ?_
    refine Then_normal ?_
    refine wp_block' ?_
    refine wp_loopK 3 (fun m Δ LL => ∃ (i : Nat) (z : List UInt8) (p3 : Option Addr) (c3 : Nat), (i + m = (five x.a).length ∧ z = l2 ++ enc4 ((five x.a).take i)) ∧ Δ = [(48, .int .i64 (i : Nat))] ∧ LL = [own pw (.cells [Value.slice p3 (z).length c3].toArray 131 (0, 0)), row 5 1 (.slice p3 (z).length c3) (z).length (cel (z)), row 37 1 (.slice (some ⟨b46, 0, none⟩) 5 5) 5 [.int .u32 x.a.u, .int .u32 x.a.g, .int .u32 x.a.m, .int .u32 x.a.a, .int .u32 x.a.t], V]) (m := (five x.a).length) (Has.cons (k := 0) rfl (Has.cons (k := 1) rfl (Has.cons (k := 46) rfl (Has.cons (k := 47) rfl (Has.nil _))))) (kept ⟨0, l2, p2, c2, ⟨by omega, by simp [enc4]⟩, rfl, rfl⟩ (by repeat (first | exact Has.nil _ | refine Has.cons rfl ?_)) (by repeat (first | exact Has.nil _ | refine Has.cons rfl ?_)) (by repeat (first | exact SubH.nil _ | refine SubH.cons 0 rfl ?_ | refine SubH.cons 1 rfl ?_ | refine SubH.cons 2 rfl ?_ | refine SubH.cons 3 rfl ?_ | refine SubH.cons 4 rfl ?_ | refine SubH.cons 5 rfl ?_ | refine SubH.cons 6 rfl ?_ | refine SubH.cons 7 rfl ?_ | refine SubH.cons 8 rfl ?_ | refine SubH.cons 9 rfl ?_ | refine SubH.cons 10 rfl ?_ | refine SubH.cons 11 rfl ?_ | refine SubH.cons 12 rfl ?_ | refine SubH.cons 13 rfl ?_ | refine SubH.rown ?_))) ?_
    rintro m Δ LL ⟨i, z, p3, c3, ⟨hm, hz⟩, rfl, rfl⟩
    simp only [List.cons_append, List.nil_append]
    refine wp_seq' ?_
    refine wp_region' ?_
    refine ops_ro' rfl (ro_lss rfl rfl rfl) rfl ?_
    refine ops_nil ?_
    refine Then_normal ?_
    refine wp_seq' ?_
    refine wp_cond' rfl (fun hc49 => ?_) (fun hc49 => ?_)
    · replace hc49 := of_decide_eq_true hc49
      have e5 : (five x.a).length = 5 := rfl
      have hi : i < (five x.a).length := by omega
      have h4 := five_lt hxa hi
      have he := enc4_len ((five x.a).take i)
      have hel : z.length ≤ l.length + 29 := by rw [hz, List.length_append, he, List.length_take]; omega
      refine wp_skip' ?_
      refine Then_normal ?_
      refine wp_seq' ?_
      refine wp_block' ?_
      refine wp_seq' ?_
      refine wp_region' ?_
      refine ops_ro' rfl (ro_indexSlice sl134 rfl rfl rfl (by omega)) rfl ?_
      refine ops_ro' rfl (ro_load sc37 rfl (Rd.pick 2 rfl (Rd.row (five_get x.a hi)))) rfl ?_
      refine ops_ro' rfl (ro_assign rfl) rfl ?_
      refine ops_nil ?_
      refine Then_normal ?_
      refine wp_region' ?_
      refine ops_ro' rfl (ro_move rfl) rfl ?_
      refine ops_ro' rfl (ro_move rfl) rfl ?_
      refine ops_eff' rfl (eff_call Try.call78 rfl rfl (by repeat (first | exact Split.nil _ | apply Split.cons 0 rfl | apply Split.cons 1 rfl | apply Split.cons 2 rfl | apply Split.cons 3 rfl | apply Split.cons 4 rfl | apply Split.cons 5 rfl | apply Split.cons 6 rfl | apply Split.cons 7 rfl | apply Split.cons 8 rfl | apply Split.cons 9 rfl | apply Split.cons 10 rfl | apply Split.cons 11 rfl)) (u32_at pw p3 c3 z (five x.a)[i] _ rfl h4 (by omega))) rfl ?_
      rintro _ H' ⟨_, ⟨p4, c4, rfl, rfl⟩, hH⟩
      simp only [List.cons_append, List.nil_append, List.eraseIdx_cons_zero, List.eraseIdx_cons_succ, List.set_cons_zero, List.set_cons_succ] at hH
      subst hH
      refine ops_nil ?_
      refine InBlock_normal ?_
      refine Then_normal ?_
      refine wp_region' ?_
      refine ops_ro' rfl (ro_add rfl rfl (wrap_inc (by omega))) rfl ?_
      refine ops_ro' rfl (ro_move rfl) rfl ?_
      refine ops_nil ?_
      refine Then_normal ?_
      refine back (m - 1) (by omega) (kept ⟨i + 1, z ++ be (five x.a)[i] 4, p4, c4, ⟨by omega, by rw [hz, enc4_take _ hi, List.append_assoc]⟩, rfl, rfl⟩ ?_ ?_ ?_)
      · exact (by repeat (first | exact Has.nil _ | refine Has.cons rfl ?_))
      · exact (by repeat (first | exact Has.nil _ | refine Has.cons rfl ?_))
      · exact SubH.refl _
    · replace hc49 := of_decide_eq_false hc49
      have e5 : (five x.a).length = 5 := rfl
      have hi : (five x.a).take i = five x.a := List.take_of_length_le (by omega)
      rw [hi] at hz
      have hzh : z = l ++ hdr x := by rw [hz, ← hl2, ← hl1]; simp only [hdr, List.append_assoc]
      have hzl : z.length = l.length + 29 := by rw [hzh, List.length_append, hdr_len]
      clear hz
      refine wp_exit' ?_
      refine Then_exit ?_
      refine Then_exit ?_
      refine InBlock_here ?_
      refine Then_normal ?_
      refine wp_seq' ?_
      refine wp_seq' ?_
      refine wp_region' ?_
      refine ops_ro' rfl (ro_move rfl) rfl ?_
      refine ops_ro' rfl (ro_nilCheck rfl) rfl ?_
      refine ops_ro' rfl (ro_fieldAddr fa85_1 rfl) rfl ?_
      refine ops_ro' rfl (ro_load sc4 rfl (Rd.pick 3 rfl ((hT.nd x hx 1 _ rfl)))) rfl ?_
      rw [hd]
      refine ops_ro' rfl (ro_not rfl rfl) rfl ?_
      try simp only [Bool.not_true, Bool.not_false]
      refine ops_nil ?_
      refine Then_normal ?_
      refine wp_condT rfl ?_
      refine wp_seq' ?_
      refine wp_region' ?_
      refine ops_ro' rfl (ro_move rfl) rfl ?_
      refine ops_ro' rfl (ro_move rfl) rfl ?_
      refine ops_ro' rfl (ro_nilCheck rfl) rfl ?_
      refine ops_ro' rfl (ro_fieldAddr fa85_4 rfl) rfl ?_
      refine ops_ro' rfl (ro_load sc30 rfl (Rd.pick 3 rfl ((hT.nd x hx 4 _ rfl)))) rfl ?_
      refine ops_ro' rfl (ro_toStr Try.underlying30 Try.underlying5 Try.underlying9 rfl (Vw.pick 3 rfl (hT.data x hx)) rfl) rfl ?_
      refine ops_eff' rfl (eff_call Try.call79 rfl rfl (by repeat (first | exact Split.nil _ | apply Split.cons 0 rfl | apply Split.cons 1 rfl | apply Split.cons 2 rfl | apply Split.cons 3 rfl | apply Split.cons 4 rfl | apply Split.cons 5 rfl | apply Split.cons 6 rfl | apply Split.cons 7 rfl | apply Split.cons 8 rfl | apply Split.cons 9 rfl | apply Split.cons 10 rfl | apply Split.cons 11 rfl)) (text_at pw p3 c3 z x.data (by omega))) rfl ?_
      rintro _ H' ⟨_, ⟨p5, c5, rfl, rfl⟩, hH⟩
      simp only [List.cons_append, List.nil_append, List.eraseIdx_cons_zero, List.eraseIdx_cons_succ, List.set_cons_zero, List.set_cons_succ] at hH
      subst hH
      refine ops_nil ?_
      refine Then_normal ?_
      refine wp_ret' ?_
      refine Then_ret ?_
      have hfin : z ++ be x.data.length 4 ++ x.data = l ++ encN t.ns (n + 1) x := by rw [encN_file hd, hzh]; simp only [List.append_assoc]
      rw [hfin]
      refine' doneS_ret (res0 rfl) ?_ ?_
      rotate_left 1
      exact ⟨_, ⟨p5, c5, rfl, rfl⟩, rfl⟩
      exact (SubH.cons 0 rfl (SubH.cons 0 rfl (SubH.cons 1 rfl (SubH.nil _))))
theorem put_ok {t : Tr} {r : Nd} (hW : Wf t r) (hN : t.next ≤ 9223372036854775807) : ∀ n, PutOk t n
  | 0 => fun V hT x hx hDp => hDp.elim
  | n + 1 => put_step hW hN n (put_ok hW hN n)
theorem save_spec {V : HProp} {t : Tr} {r : Nd} (hT : Tv V t) (hW : Wf t r) (hN : t.next ≤ 9223372036854775807) : Tri Try.prog 25 [t.v] [V] (fun v H' => ∃ K, (∃ b p' c', v = .slice p' b.length c' ∧ SaveR t r b ∧ b.length ≤ 1100008 ∧ K = [rowD p' c' b]) ∧ H' = K ++ [V]) := by
  obtain ⟨n, hn⟩ := wf_deep hW hW.root
  refine tri_of_wpS Try.func25 rfl Try.ntmps25 (by simp) ?_
  refine wp_seq' ?_
  refine wp_region' ?_
  refine ops_ro' rfl (ro_assign rfl) rfl ?_
  refine ops_nil ?_
  refine Then_normal ?_
  refine wp_seq' ?_
  refine wp_region' ?_
  refine ops_eff' rfl (eff_call Try.call45 rfl rfl (by repeat (first | exact Split.nil _ | apply Split.cons 0 rfl | apply Split.cons 1 rfl | apply Split.cons 2 rfl | apply Split.cons 3 rfl | apply Split.cons 4 rfl | apply Split.cons 5 rfl | apply Split.cons 6 rfl | apply Split.cons 7 rfl | apply Split.cons 8 rfl | apply Split.cons 9 rfl | apply Split.cons 10 rfl | apply Split.cons 11 rfl)) (newWriter_spec)) rfl ?_
  rintro _ H' ⟨_, ⟨pw, rfl, rfl⟩, hH⟩
  simp only [List.cons_append, List.nil_append, List.eraseIdx_cons_zero, List.eraseIdx_cons_succ, List.set_cons_zero, List.set_cons_succ] at hH
  subst hH
  refine ops_ro' rfl (ro_assign rfl) rfl ?_
  refine ops_nil ?_
  refine Then_normal ?_
  refine wp_seq' ?_
  refine wp_region' ?_
  refine ops_ro' rfl (ro_move rfl) rfl ?_
  refine ops_ro' rfl (ro_move rfl) rfl ?_
  refine ops_ro' rfl (ro_nilCheck rfl) rfl ?_
  refine ops_ro' rfl (ro_fieldAddr fa78_2 rfl) rfl ?_
  refine ops_ro' rfl (ro_load sc3 rfl (Rd.pick 2 rfl ((hT.cs 2 _ rfl)))) rfl ?_
  refine ops_ro' rfl (ro_conv Try.underlying3 Try.underlying34 rfl (wrap_u64_in (by omega) (by omega))) rfl ?_
  refine ops_eff' rfl (eff_call Try.call46 rfl rfl (by repeat (first | exact Split.nil _ | apply Split.cons 0 rfl | apply Split.cons 1 rfl | apply Split.cons 2 rfl | apply Split.cons 3 rfl | apply Split.cons 4 rfl | apply Split.cons 5 rfl | apply Split.cons 6 rfl | apply Split.cons 7 rfl | apply Split.cons 8 rfl | apply Split.cons 9 rfl | apply Split.cons 10 rfl | apply Split.cons 11 rfl)) (u64_at pw none 0 [] t.next _ rfl (by simp))) rfl ?_
  rintro _ H' ⟨_, ⟨p1, c1, rfl, rfl⟩, hH⟩
  simp only [List.cons_append, List.nil_append, List.eraseIdx_cons_zero, List.eraseIdx_cons_succ, List.set_cons_zero, List.set_cons_succ] at hH
  subst hH
  refine ops_nil ?_
  refine Then_normal ?_
  refine wp_seq' ?_
  refine wp_region' ?_
  refine ops_ro' rfl (ro_move rfl) rfl ?_
  refine ops_ro' rfl (ro_move rfl) rfl ?_
  refine ops_ro' rfl (ro_nilCheck rfl) rfl ?_
  refine ops_ro' rfl (ro_fieldAddr fa78_0 rfl) rfl ?_
  refine ops_ro' rfl (ro_load sc76 rfl (Rd.pick 2 rfl ((hT.cs 0 _ rfl)))) rfl ?_
  rw [hW.rb]
  have hel := enc_max hW n hW.root
  refine ops_eff' rfl (eff_call Try.call47 rfl rfl (by repeat (first | exact Split.nil _ | apply Split.cons 0 rfl | apply Split.cons 1 rfl | apply Split.cons 2 rfl | apply Split.cons 3 rfl | apply Split.cons 4 rfl | apply Split.cons 5 rfl | apply Split.cons 6 rfl | apply Split.cons 7 rfl | apply Split.cons 8 rfl | apply Split.cons 9 rfl | apply Split.cons 10 rfl | apply Split.cons 11 rfl)) (put_ok hW hN n V hT r hW.root hn pw p1 c1 _ (by simp only [List.nil_append, be_length]; omega))) rfl ?_
  rintro _ H' ⟨_, ⟨_, ⟨p2, c2, rfl, rfl⟩, rfl⟩, hH⟩
  simp only [List.cons_append, List.nil_append, List.eraseIdx_cons_zero, List.eraseIdx_cons_succ, List.set_cons_zero, List.set_cons_succ] at hH
  subst hH
  generalize hbb : be t.next 8 ++ encN t.ns n r = bb
  have hbl : bb.length ≤ 1100008 := by rw [← hbb, List.length_append, be_length]; omega
  refine ops_nil ?_
  refine Then_normal ?_
  refine wp_seq' ?_
  refine wp_region' ?_
  refine ops_ro' rfl (ro_move rfl) rfl ?_
  refine ops_eff' rfl (eff_call Try.call48 rfl rfl (by repeat (first | exact Split.nil _ | apply Split.cons 0 rfl | apply Split.cons 1 rfl | apply Split.cons 2 rfl | apply Split.cons 3 rfl | apply Split.cons 4 rfl | apply Split.cons 5 rfl | apply Split.cons 6 rfl | apply Split.cons 7 rfl | apply Split.cons 8 rfl | apply Split.cons 9 rfl | apply Split.cons 10 rfl | apply Split.cons 11 rfl)) (done_spec pw p2 c2 bb (by omega))) rfl ?_
  rintro _ H' ⟨_, ⟨p', c', rfl, hal, rfl⟩, hH⟩
  simp only [List.cons_append, List.nil_append, List.eraseIdx_cons_zero, List.eraseIdx_cons_succ, List.set_cons_zero, List.set_cons_succ] at hH
  subst hH
  refine ops_ro' rfl (ro_assign rfl) rfl ?_
  refine ops_nil ?_
  refine Then_normal ?_
  refine wp_ret' ?_
  refine' doneS_ret (res1 rfl rfl) ?_ ?_
  rotate_left 1
  exact ⟨_, ⟨bb, p', c', rfl, ⟨n, hn, hbb.symm⟩, hbl, rfl⟩, rfl⟩
  exact (SubH.cons 0 rfl (SubH.cons 2 rfl (SubH.nil _)))

end Go.Proofs.Ytbbmhppkhcodfaa
