/-
  More of what the writer does: numbers as texts; texts cut.
-/
import Derived.Test.YtigaolglnnjnmaaDoorRead
import Derived.Test.YtigaolglnnjnmaaDoorSxLock
namespace Go.Proofs.YtigaolglnnjnmaaDoor
open Go.Sx
set_option linter.unusedVariables false
set_option linter.unusedSimpArgs false
set_option maxRecDepth 100000

theorem vwPtr {L : HProp} {n c : Nat} {q : Option Addr} {xs : List Value} (h : Vw L (.slice q n c) n xs) {w : World} {R : HProp} (s : sat w (star L R)) (h0 : n ≠ 0) : ∃ b o, q = some ⟨b, o, none⟩ := by
  rcases h w R s with ⟨_, _, h2, _⟩ | ⟨b, o, cap, h1, _⟩
  · omega
  · injection h1 with h1 _ _; exact ⟨b, o, h1⟩
theorem vwRdn {V : HProp} {b o n c : Nat} {xs : List Value} (h : Vw V (.slice (some ⟨b, o, none⟩) n c) n xs) : RdN V b o xs := fun j u hj w R s => by
  rcases h w R s with ⟨q, _, _, h3⟩ | ⟨b', o', c', h1, h2⟩
  · subst h3; simp at hj
  · injection h1 with h1 _ _; injection h1 with h1; injection h1 with h1 h3; subst h1; subst h3
    exact h2 j u hj
/-- no more of a text than n -/
def hd (s : ByteArray) (n : Nat) : ByteArray := if n < s.size then s.extract 0 n else s
theorem head_spec (s : ByteArray) (n : Nat) : Tri Tryd.prog 20 [.string s, .int .i64 n] [] (fun v H' => v = .string (hd s n) ∧ H' = []) := by
  by_cases h : n < s.size
  · skip
    refine tri_of_wp Tryd.func20 rfl Tryd.ntmps20 (by simp) ?_
    refine wp_seq' ?_
    refine wp_region' ?_
    refine ops_ro' rfl (ro_assign rfl) rfl ?_
    refine ops_nil ?_
    repeat (first | refine InBlock_normal ?_ | refine NoGoto_normal ?_ | refine Jump_normal ?_)
    refine Then_normal ?_
    refine wp_seq' ?_
    refine wp_seq' ?_
    refine wp_region' ?_
    refine ops_ro' rfl (ro_move rfl) rfl ?_
    refine ops_ro' rfl (ro_strLen (t' := 0) Tryd.underlying9 rfl) rfl ?_
    refine ops_ro' rfl (ro_move rfl) rfl ?_
    refine ops_ro' rfl (ro_gtr rfl rfl (decide_eq_true (by omega))) rfl ?_
    refine ops_nil ?_
    repeat (first | refine InBlock_normal ?_ | refine NoGoto_normal ?_ | refine Jump_normal ?_)
    refine Then_normal ?_
    refine wp_condT rfl ?_
    refine wp_seq' ?_
    refine wp_region' ?_
    refine ops_ro' rfl (ro_move rfl) rfl ?_
    refine ops_ro' rfl (ro_move rfl) rfl ?_
    refine ops_ro' rfl (ro_sliceStr (l := 0) (h := n) Tryd.underlying9 rfl rfl (bnd_of rfl rfl) (by omega) (by omega)) rfl ?_
    refine ops_ro' rfl (ro_assign rfl) rfl ?_
    refine ops_nil ?_
    repeat (first | refine InBlock_normal ?_ | refine NoGoto_normal ?_ | refine Jump_normal ?_)
    refine Then_normal ?_
    refine wp_ret' ?_
    repeat (first | refine Then_ret ?_ | refine InBlock_ret ?_ | refine NoGoto_ret ?_ | refine Jump_ret ?_)
    refine done_ret (res1 rfl rfl) ?_
    exact ⟨by rw [hd, if_pos h], rfl⟩
  · skip
    refine tri_of_wp Tryd.func20 rfl Tryd.ntmps20 (by simp) ?_
    refine wp_seq' ?_
    refine wp_region' ?_
    refine ops_ro' rfl (ro_assign rfl) rfl ?_
    refine ops_nil ?_
    repeat (first | refine InBlock_normal ?_ | refine NoGoto_normal ?_ | refine Jump_normal ?_)
    refine Then_normal ?_
    refine wp_seq' ?_
    refine wp_seq' ?_
    refine wp_region' ?_
    refine ops_ro' rfl (ro_move rfl) rfl ?_
    refine ops_ro' rfl (ro_strLen (t' := 0) Tryd.underlying9 rfl) rfl ?_
    refine ops_ro' rfl (ro_move rfl) rfl ?_
    refine ops_ro' rfl (ro_gtr rfl rfl (decide_eq_false (by omega))) rfl ?_
    refine ops_nil ?_
    repeat (first | refine InBlock_normal ?_ | refine NoGoto_normal ?_ | refine Jump_normal ?_)
    refine Then_normal ?_
    refine wp_condF rfl ?_
    refine wp_skip' ?_
    repeat (first | refine InBlock_normal ?_ | refine NoGoto_normal ?_ | refine Jump_normal ?_)
    refine Then_normal ?_
    refine wp_seq' ?_
    refine wp_region' ?_
    refine ops_ro' rfl (ro_move rfl) rfl ?_
    refine ops_ro' rfl (ro_assign rfl) rfl ?_
    refine ops_nil ?_
    repeat (first | refine InBlock_normal ?_ | refine NoGoto_normal ?_ | refine Jump_normal ?_)
    refine Then_normal ?_
    refine wp_ret' ?_
    repeat (first | refine Then_ret ?_ | refine InBlock_ret ?_ | refine NoGoto_ret ?_ | refine Jump_ret ?_)
    refine done_ret (res1 rfl rfl) ?_
    exact ⟨by rw [hd, if_neg h], rfl⟩
theorem hd_size (s : ByteArray) (n : Nat) : (hd s n).size ≤ n := by
  unfold hd; split
  · rw [ByteArray.size_extract]; omega
  · omega
/-- without noughts ahead -/
def bare (l : List UInt8) : List UInt8 := l.dropWhile (fun d => d == 0)
theorem bare_zero (l : List UInt8) : bare (0 :: l) = bare l := by simp [bare]
theorem bare_stop {d : UInt8} (l : List UInt8) (h : ¬ d = 0) : bare (d :: l) = d :: l := by simp [bare, h]
def top (b : List UInt8) : List UInt8 := match b with | [] => [] | d :: l => if 128 ≤ d.toNat then 0 :: d :: l else d :: l
/-- a number as a text -/
def mp (l : List UInt8) : List UInt8 := be (top (bare l)).length 4 ++ top (bare l)
theorem mp_top {l l2 : List UInt8} {d : UInt8} (hb : bare (d :: l2) = bare l) (hz : ¬ d = 0) (h : (128 : Int) ≤ (d.toNat : Int)) : mp l = be (0 :: d :: l2).length 4 ++ (0 :: d :: l2) := by
  unfold mp; rw [← hb, bare_stop l2 hz, top, if_pos (by omega)]
theorem mp_low {l l2 : List UInt8} {d : UInt8} (hb : bare (d :: l2) = bare l) (hz : ¬ d = 0) (h : ¬ (128 : Int) ≤ (d.toNat : Int)) : mp l = be (d :: l2).length 4 ++ (d :: l2) := by
  unfold mp; rw [← hb, bare_stop l2 hz, top, if_neg (by omega)]

end Go.Proofs.YtigaolglnnjnmaaDoor
