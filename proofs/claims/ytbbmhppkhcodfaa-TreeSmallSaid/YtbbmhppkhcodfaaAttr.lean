/-
  What the reader of package wire does.
  What package attr does.
-/
import Derived.Test.YtbbmhppkhcodfaaWire
namespace Go.Proofs.Ytbbmhppkhcodfaa
open Go.Sx
set_option linter.unusedVariables false
set_option linter.unusedSimpArgs false
set_option maxRecDepth 100000

/-- a reader's state: its bytes, how many were read, the refusal, its place -/
structure R where
  b : List UInt8
  pos : Nat
  why : Int
  place : Int
abbrev rd (pr : Nat) (p : Option Addr) (c : Nat) (r : R) : List HProp :=
  [own pr (.cells [Value.slice p r.b.length c, .int .i64 r.pos, .int .i64 r.why, .int .i64 r.place].toArray 139 (0, 0)), row 5 1 (.slice p r.b.length c) r.b.length (cel r.b)]
def R.new (l : List UInt8) : R := ⟨l, 0, 0, 0⟩
def R.refuse (r : R) (why place : Int) : R := if r.why = 0 then { r with why := why, place := place } else r
/-- n bytes are taken -/
def R.take (r : R) (n : Int) : R × List UInt8 :=
  if r.why ≠ 0 then (r, [])
  else if (r.b.length : Int) - r.pos < n then (r.refuse 10 r.b.length, [])
  else if n ≤ 0 then (r, [])
  else ({ r with pos := r.pos + n.toNat }, (r.b.drop r.pos).take n.toNat)
def val (l : List UInt8) : Nat := l.foldl (fun n c => n * 256 + c.toNat) 0
def R.get (r : R) (size : Nat) : R × Nat := ((r.take size).1, val (r.take size).2)
theorem take_b (r : R) (n : Int) : (r.take n).1.b = r.b := by unfold R.take R.refuse; repeat' split
                                                              all_goals rfl


theorem newReader_spec (V : HProp) (p : Option Addr) (c : Nat) (l : List UInt8) (hV : Vw V (.slice p l.length c) l.length (cel l)) (hl : l.length ≤ 140737488355328) :
    Tri Try.prog 51 [.slice p l.length c] [V] (fun v H' => ∃ pr p' c', v = .pointer (some ⟨pr, 0, none⟩) ∧ H' = rd pr p' c' (R.new l) ++ [V]) := by
  refine tri_of_wp Try.func51 rfl Try.ntmps51 (by simp) ?_; refine wp_seq' (wp_region' (ops_ro' rfl (ro_assign rfl) rfl (ops_nil ?_)))
  repeat (first | refine InBlock_normal ?_ | refine NoGoto_normal ?_ | refine Jump_normal ?_)
  refine Then_normal (wp_seq' (wp_region' (ops_ro' rfl (ro_move rfl) rfl (ops_eff' rfl (eff_call Try.call40 rfl rfl (Split.cons 0 rfl (Split.nil _)) (clone_spec V p l.length c (cel l) hV (cel_length _) (cel_one _) (by omega))) rfl ?_)))); rintro _ H' ⟨_, ⟨p', c', rfl, hp, rfl⟩, hH⟩; simp only [zA, zB, zC, zD, zE, zF] at hH; subst hH; refine ops_ro' rfl (ro_build rfl (bld_struct (cs := [_, _, _, _]) st139 rfl)) rfl (ops_eff' rfl (eff_box rfl) rfl ?_); rintro _ _ ⟨br, rfl, rfl⟩; refine ops_ro' rfl (ro_assign rfl) rfl (ops_nil ?_)
  repeat (first | refine InBlock_normal ?_ | refine NoGoto_normal ?_ | refine Jump_normal ?_)
  refine Then_normal (wp_ret' ?_)
  repeat (first | refine Then_ret ?_ | refine InBlock_ret ?_ | refine NoGoto_ret ?_ | refine Jump_ret ?_)
  refine done_ret (res1 rfl rfl) ?_; exact ⟨br, p', c', rfl, rfl⟩


theorem refuse_spec (pr : Nat) (p : Option Addr) (c : Nat) (r : R) (why place : Int) :
    Tri Try.prog 103 [.pointer (some ⟨pr, 0, none⟩), .int .i64 why, .int .i64 place] (rd pr p c r) (fun v H' => v = .tuple #[] ∧ H' = rd pr p c (r.refuse why place)) := by
  by_cases h : r.why = 0
  · skip; refine tri_of_wp Try.func103 rfl Try.ntmps103 (by simp) ?_; refine wp_seq' (wp_region' (ops_ro' rfl (ro_move rfl) rfl (ops_ro' rfl (ro_nilCheck rfl) rfl (ops_ro' rfl (ro_fieldAddr fa139_2 rfl) rfl (ops_ro' rfl (ro_load sc26 rfl (Rd.pick 0 rfl (by first | exact Rd.own rfl | exact Rd.row rfl))) rfl ?_))))); refine ops_ro' rfl (ro_eql rfl rfl (decide_eq_true h)) rfl (ops_nil ?_)
    repeat (first | refine InBlock_normal ?_ | refine NoGoto_normal ?_ | refine Jump_normal ?_)
    refine Then_normal (wp_condT rfl ?_); refine wp_region' (ops_ro' rfl (ro_move rfl) rfl (ops_ro' rfl (ro_move rfl) rfl (ops_ro' rfl (ro_move rfl) rfl (ops_ro' rfl (ro_move rfl) rfl (ops_ro' rfl (ro_nilCheck rfl) rfl ?_))))); refine ops_ro' rfl (ro_fieldAddr fa139_2 rfl) rfl (ops_eff0 rfl ((eff_store 0 sc26 rfl rfl rfl rfl (Nat.le_of_ble_eq_true rfl) (warm_zero _))) rfl ?_); rintro _ _ rfl; refine ops_ro' rfl (ro_nilCheck rfl) rfl (ops_ro' rfl (ro_fieldAddr fa139_3 rfl) rfl (ops_eff0 rfl ((eff_store 0 sc3 rfl rfl rfl rfl (Nat.le_of_ble_eq_true rfl) (warm_zero _))) rfl ?_)); rintro _ _ rfl; refine ops_nil ?_
    repeat (first | refine InBlock_normal ?_ | refine NoGoto_normal ?_ | refine Jump_normal ?_)
    refine done_normal (res0 rfl) ?_; exact ⟨rfl, by simp only [R.refuse, if_pos h]; rfl⟩
  · skip; refine tri_of_wp Try.func103 rfl Try.ntmps103 (by simp) ?_; refine wp_seq' (wp_region' (ops_ro' rfl (ro_move rfl) rfl (ops_ro' rfl (ro_nilCheck rfl) rfl (ops_ro' rfl (ro_fieldAddr fa139_2 rfl) rfl (ops_ro' rfl (ro_load sc26 rfl (Rd.pick 0 rfl (by first | exact Rd.own rfl | exact Rd.row rfl))) rfl ?_))))); refine ops_ro' rfl (ro_eql rfl rfl (decide_eq_false h)) rfl (ops_nil ?_)
    repeat (first | refine InBlock_normal ?_ | refine NoGoto_normal ?_ | refine Jump_normal ?_)
    refine Then_normal (wp_condF rfl ?_); refine wp_skip' ?_
    repeat (first | refine InBlock_normal ?_ | refine NoGoto_normal ?_ | refine Jump_normal ?_)
    refine done_normal (res0 rfl) ?_; exact ⟨rfl, by simp only [R.refuse, if_neg h]⟩


/-- what take hands out: a row of its own -/
def Out (v : Value) (l : List UInt8) (A : HProp) : Prop := ∃ p c, v = .slice p l.length c ∧ ((p = none ∧ l = []) ∨ ∃ b, p = some ⟨b, 0, none⟩) ∧ A = row 5 1 (.slice p l.length c) l.length (cel l)
theorem take_refused (pr : Nat) (p : Option Addr) (c : Nat) (r : R) (n : Int) (h : ¬ r.why = 0) :
    Tri Try.prog 102 [.pointer (some ⟨pr, 0, none⟩), .int .i64 n] (rd pr p c r) (fun v H' => ∃ p' c', v = .slice p' 0 c' ∧ ((p' = none ∧ ([] : List UInt8) = []) ∨ ∃ b, p' = some ⟨b, 0, none⟩) ∧ H' = row 5 1 (.slice p' 0 c') 0 [] :: rd pr p c r) := by
  refine tri_of_wp Try.func102 rfl Try.ntmps102 (by simp) ?_; refine wp_seq' (wp_region' (ops_ro' rfl (ro_assign rfl) rfl (ops_nil ?_)))
  repeat (first | refine InBlock_normal ?_ | refine NoGoto_normal ?_ | refine Jump_normal ?_)
  refine Then_normal (wp_seq' (wp_seq' (wp_draw 19 (by kernel_rfl) (Split.all _) ?_))); refine any_ro' (i := 0) (by kernel_rfl) rfl rfl (ro_move rfl) rfl (fun _ _ _ h => h) ?_; refine any_ro' (i := 1) (by kernel_rfl) rfl rfl (ro_nilCheck rfl) rfl (fun _ _ _ h => h) ?_; refine any_ro' (i := 2) (by kernel_rfl) rfl rfl (ro_fieldAddr fa139_2 rfl) rfl (fun _ _ _ h => h) ?_; refine any_ro' (i := 3) (by kernel_rfl) rfl rfl (ro_load sc26 rfl (Rd.pick 0 rfl (by first | exact Rd.own rfl | exact Rd.row rfl))) rfl (fun _ _ _ h => h) ?_; refine any_ro' (i := 4) (by kernel_rfl) rfl rfl (ro_eql rfl rfl (decide_eq_false h)) rfl (fun _ _ _ h => h) ?_; refine any_ro' (i := 5) (by kernel_rfl) rfl rfl (ro_move rfl) rfl (fun _ _ _ h => h) ?_; refine any_skip' (i := 6) (by kernel_rfl) rfl rfl rfl (fun _ _ _ h => h) ?_; refine any_skip' (i := 7) (by kernel_rfl) rfl rfl rfl (fun _ _ _ h => h) ?_; refine any_skip' (i := 8) (by kernel_rfl) rfl rfl rfl (fun _ _ _ h => h) ?_; refine any_skip' (i := 9) (by kernel_rfl) rfl rfl rfl (fun _ _ _ h => h) ?_; refine any_skip' (i := 10) (by kernel_rfl) rfl rfl rfl (fun _ _ _ h => h) ?_; refine any_skip' (i := 11) (by kernel_rfl) rfl rfl rfl (fun _ _ _ h => h) ?_; refine any_skip' (i := 12) (by kernel_rfl) rfl rfl rfl (fun _ _ _ h => h) ?_; refine any_skip' (i := 13) (by kernel_rfl) rfl rfl rfl (fun _ _ _ h => h) ?_; refine any_skip' (i := 14) (by kernel_rfl) rfl rfl rfl (fun _ _ _ h => h) ?_; refine any_skip' (i := 15) (by kernel_rfl) rfl rfl rfl (fun _ _ _ h => h) ?_; refine any_skip' (i := 16) (by kernel_rfl) rfl rfl rfl (fun _ _ _ h => h) ?_; refine any_skip' (i := 17) (by kernel_rfl) rfl rfl rfl (fun _ _ _ h => h) ?_; refine any_ro' (i := 18) (by kernel_rfl) rfl rfl (ro_pick rfl rfl) rfl (fun _ _ _ h => h) ?_; refine any_doneL (by kernel_rfl) ?_
  repeat (first | refine InBlock_normal ?_ | refine NoGoto_normal ?_ | refine Jump_normal ?_)
  refine Then_normal (wp_condF rfl ?_); refine wp_skip' ?_
  repeat (first | refine InBlock_normal ?_ | refine NoGoto_normal ?_ | refine Jump_normal ?_)
  refine Then_normal (wp_seq' (wp_seq' (wp_region' (ops_ro' rfl (ro_move rfl) rfl (ops_ro' rfl (ro_nilCheck rfl) rfl ?_))))); refine ops_ro' rfl (ro_fieldAddr fa139_2 rfl) rfl (ops_ro' rfl (ro_load sc26 rfl (Rd.pick 0 rfl (by first | exact Rd.own rfl | exact Rd.row rfl))) rfl (ops_ro' rfl (ro_neq rfl rfl (decide_eq_true h)) rfl (ops_ro' rfl (ro_move rfl) rfl (ops_skip rfl rfl ?_)))); refine ops_skip rfl rfl ?_; refine ops_ro' rfl (ro_pick rfl rfl) rfl (ops_nil ?_)
  repeat (first | refine InBlock_normal ?_ | refine NoGoto_normal ?_ | refine Jump_normal ?_)
  refine Then_normal (wp_condT rfl ?_); refine wp_seq' (wp_heap (fun w F s => nil_row 5 1 w F s) ?_); refine wp_region' (ops_ro' rfl (ro_assign rfl) rfl (ops_nil ?_))
  repeat (first | refine InBlock_normal ?_ | refine NoGoto_normal ?_ | refine Jump_normal ?_)
  refine Then_normal (wp_ret' ?_)
  repeat (first | refine Then_ret ?_ | refine InBlock_ret ?_ | refine NoGoto_ret ?_ | refine Jump_ret ?_)
  refine done_ret (res1 rfl rfl) ?_; exact ⟨none, 0, rfl, .inl ⟨rfl, rfl⟩, rfl⟩
theorem take_end (pr : Nat) (p : Option Addr) (c : Nat) (r : R) (n : Int) (h : r.why = 0) (hn : (r.b.length : Int) - r.pos < n) (hl : r.b.length ≤ 140737488355328) (hp : r.pos ≤ r.b.length) :
    Tri Try.prog 102 [.pointer (some ⟨pr, 0, none⟩), .int .i64 n] (rd pr p c r) (fun v H' => ∃ p' c', v = .slice p' 0 c' ∧ ((p' = none ∧ ([] : List UInt8) = []) ∨ ∃ b, p' = some ⟨b, 0, none⟩) ∧ H' = row 5 1 (.slice p' 0 c') 0 [] :: rd pr p c (r.refuse 10 r.b.length)) := by
  refine tri_of_wp Try.func102 rfl Try.ntmps102 (by simp) ?_; refine wp_seq' (wp_region' (ops_ro' rfl (ro_assign rfl) rfl (ops_nil ?_)))
  repeat (first | refine InBlock_normal ?_ | refine NoGoto_normal ?_ | refine Jump_normal ?_)
  refine Then_normal (wp_seq' (wp_seq' (wp_draw 19 (by kernel_rfl) (Split.all _) ?_))); refine any_ro' (i := 0) (by kernel_rfl) rfl rfl (ro_move rfl) rfl (fun _ _ _ h => h) ?_; refine any_ro' (i := 1) (by kernel_rfl) rfl rfl (ro_nilCheck rfl) rfl (fun _ _ _ h => h) ?_; refine any_ro' (i := 2) (by kernel_rfl) rfl rfl (ro_fieldAddr fa139_2 rfl) rfl (fun _ _ _ h => h) ?_; refine any_ro' (i := 3) (by kernel_rfl) rfl rfl (ro_load sc26 rfl (Rd.pick 0 rfl (by first | exact Rd.own rfl | exact Rd.row rfl))) rfl (fun _ _ _ h => h) ?_; refine any_ro' (i := 4) (by kernel_rfl) rfl rfl (ro_eql rfl rfl (decide_eq_true h)) rfl (fun _ _ _ h => h) ?_; refine any_ro' (i := 5) (by kernel_rfl) rfl rfl (ro_move rfl) rfl (fun _ _ _ h => h) ?_; refine any_ro' (i := 6) (by kernel_rfl) rfl rfl (ro_move rfl) rfl (fun _ _ _ h => h) ?_; refine any_ro' (i := 7) (by kernel_rfl) rfl rfl (ro_move rfl) rfl (fun _ _ _ h => h) ?_; refine any_ro' (i := 8) (by kernel_rfl) rfl rfl (ro_nilCheck rfl) rfl (fun _ _ _ h => h) ?_; refine any_ro' (i := 9) (by kernel_rfl) rfl rfl (ro_fieldAddr fa139_0 rfl) rfl (fun _ _ _ h => h) ?_; refine any_ro' (i := 10) (by kernel_rfl) rfl rfl (ro_load sc30 rfl (Rd.pick 0 rfl (by first | exact Rd.own rfl | exact Rd.row rfl))) rfl (fun _ _ _ h => h) ?_; refine any_ro' (i := 11) (by kernel_rfl) rfl rfl (ro_sliceLen Try.underlying30 rfl) rfl (fun _ _ _ h => h) ?_; refine any_ro' (i := 12) (by kernel_rfl) rfl rfl (ro_move rfl) rfl (fun _ _ _ h => h) ?_; refine any_ro' (i := 13) (by kernel_rfl) rfl rfl (ro_nilCheck rfl) rfl (fun _ _ _ h => h) ?_; refine any_ro' (i := 14) (by kernel_rfl) rfl rfl (ro_fieldAddr fa139_1 rfl) rfl (fun _ _ _ h => h) ?_; refine any_ro' (i := 15) (by kernel_rfl) rfl rfl (ro_load sc3 rfl (Rd.pick 0 rfl (by first | exact Rd.own rfl | exact Rd.row rfl))) rfl (fun _ _ _ h => h) ?_; refine any_ro' (i := 16) (by kernel_rfl) rfl rfl (ro_sub rfl rfl (by first | exact wrap_i64_in (by omega) (by omega) | rfl)) rfl (fun _ _ _ h => h) ?_; refine any_ro' (i := 17) (by kernel_rfl) rfl rfl (ro_gtr rfl rfl (decide_eq_true (by omega))) rfl (fun _ _ _ h => h) ?_; refine any_ro' (i := 18) (by kernel_rfl) rfl rfl (ro_pick rfl rfl) rfl (fun _ _ _ h => h) ?_; refine any_doneL (by kernel_rfl) ?_
  repeat (first | refine InBlock_normal ?_ | refine NoGoto_normal ?_ | refine Jump_normal ?_)
  refine Then_normal (wp_condT rfl ?_); refine wp_region' (ops_ro' rfl (ro_move rfl) rfl (ops_ro' rfl (ro_move rfl) rfl (ops_ro' rfl (ro_nilCheck rfl) rfl (ops_ro' rfl (ro_fieldAddr fa139_0 rfl) rfl (ops_ro' rfl (ro_load sc30 rfl (Rd.pick 0 rfl (by first | exact Rd.own rfl | exact Rd.row rfl))) rfl ?_))))); refine ops_ro' rfl (ro_sliceLen Try.underlying30 rfl) rfl (ops_eff' rfl (eff_call Try.call103 rfl rfl (Split.cons 0 rfl (Split.cons 0 rfl (Split.nil _))) (refuse_spec pr p c r 10 r.b.length)) rfl ?_); rintro _ H' ⟨_, ⟨rfl, rfl⟩, hH⟩; simp only [zA, zB, zC, zD, zE, zF] at hH; subst hH; refine ops_nil ?_
  repeat (first | refine InBlock_normal ?_ | refine NoGoto_normal ?_ | refine Jump_normal ?_)
  refine Then_normal (wp_seq' (wp_seq' (wp_region' (ops_ro' rfl (ro_move rfl) rfl (ops_ro' rfl (ro_nilCheck rfl) rfl ?_))))); refine ops_ro' rfl (ro_fieldAddr fa139_2 rfl) rfl ?_; rw [R.refuse, if_pos h]; refine ops_ro' rfl (ro_load sc26 rfl (Rd.pick 0 rfl (by first | exact Rd.own rfl | exact Rd.row rfl))) rfl (ops_ro' rfl (ro_neq rfl rfl rfl) rfl (ops_ro' rfl (ro_move rfl) rfl (ops_skip rfl rfl ?_))); refine ops_skip rfl rfl ?_; refine ops_ro' rfl (ro_pick rfl rfl) rfl (ops_nil ?_)
  repeat (first | refine InBlock_normal ?_ | refine NoGoto_normal ?_ | refine Jump_normal ?_)
  refine Then_normal (wp_condT rfl ?_); refine wp_seq' (wp_heap (fun w F s => nil_row 5 1 w F s) ?_); refine wp_region' (ops_ro' rfl (ro_assign rfl) rfl (ops_nil ?_))
  repeat (first | refine InBlock_normal ?_ | refine NoGoto_normal ?_ | refine Jump_normal ?_)
  refine Then_normal (wp_ret' ?_)
  repeat (first | refine Then_ret ?_ | refine InBlock_ret ?_ | refine NoGoto_ret ?_ | refine Jump_ret ?_)
  refine done_ret (res1 rfl rfl) ?_; exact ⟨none, 0, rfl, .inl ⟨rfl, rfl⟩, rfl⟩
theorem take_none (pr : Nat) (p : Option Addr) (c : Nat) (r : R) (n : Int) (h : r.why = 0) (hn : n ≤ (r.b.length : Int) - r.pos) (h0 : n ≤ 0) (hl : r.b.length ≤ 140737488355328) (hp : r.pos ≤ r.b.length) :
    Tri Try.prog 102 [.pointer (some ⟨pr, 0, none⟩), .int .i64 n] (rd pr p c r) (fun v H' => ∃ p' c', v = .slice p' 0 c' ∧ ((p' = none ∧ ([] : List UInt8) = []) ∨ ∃ b, p' = some ⟨b, 0, none⟩) ∧ H' = row 5 1 (.slice p' 0 c') 0 [] :: rd pr p c r) := by
  refine tri_of_wp Try.func102 rfl Try.ntmps102 (by simp) ?_; refine wp_seq' (wp_region' (ops_ro' rfl (ro_assign rfl) rfl (ops_nil ?_)))
  repeat (first | refine InBlock_normal ?_ | refine NoGoto_normal ?_ | refine Jump_normal ?_)
  refine Then_normal (wp_seq' (wp_seq' (wp_draw 19 (by kernel_rfl) (Split.all _) ?_))); refine any_ro' (i := 0) (by kernel_rfl) rfl rfl (ro_move rfl) rfl (fun _ _ _ h => h) ?_; refine any_ro' (i := 1) (by kernel_rfl) rfl rfl (ro_nilCheck rfl) rfl (fun _ _ _ h => h) ?_; refine any_ro' (i := 2) (by kernel_rfl) rfl rfl (ro_fieldAddr fa139_2 rfl) rfl (fun _ _ _ h => h) ?_; refine any_ro' (i := 3) (by kernel_rfl) rfl rfl (ro_load sc26 rfl (Rd.pick 0 rfl (by first | exact Rd.own rfl | exact Rd.row rfl))) rfl (fun _ _ _ h => h) ?_; refine any_ro' (i := 4) (by kernel_rfl) rfl rfl (ro_eql rfl rfl (decide_eq_true h)) rfl (fun _ _ _ h => h) ?_; refine any_ro' (i := 5) (by kernel_rfl) rfl rfl (ro_move rfl) rfl (fun _ _ _ h => h) ?_; refine any_ro' (i := 6) (by kernel_rfl) rfl rfl (ro_move rfl) rfl (fun _ _ _ h => h) ?_; refine any_ro' (i := 7) (by kernel_rfl) rfl rfl (ro_move rfl) rfl (fun _ _ _ h => h) ?_; refine any_ro' (i := 8) (by kernel_rfl) rfl rfl (ro_nilCheck rfl) rfl (fun _ _ _ h => h) ?_; refine any_ro' (i := 9) (by kernel_rfl) rfl rfl (ro_fieldAddr fa139_0 rfl) rfl (fun _ _ _ h => h) ?_; refine any_ro' (i := 10) (by kernel_rfl) rfl rfl (ro_load sc30 rfl (Rd.pick 0 rfl (by first | exact Rd.own rfl | exact Rd.row rfl))) rfl (fun _ _ _ h => h) ?_; refine any_ro' (i := 11) (by kernel_rfl) rfl rfl (ro_sliceLen Try.underlying30 rfl) rfl (fun _ _ _ h => h) ?_; refine any_ro' (i := 12) (by kernel_rfl) rfl rfl (ro_move rfl) rfl (fun _ _ _ h => h) ?_; refine any_ro' (i := 13) (by kernel_rfl) rfl rfl (ro_nilCheck rfl) rfl (fun _ _ _ h => h) ?_; refine any_ro' (i := 14) (by kernel_rfl) rfl rfl (ro_fieldAddr fa139_1 rfl) rfl (fun _ _ _ h => h) ?_; refine any_ro' (i := 15) (by kernel_rfl) rfl rfl (ro_load sc3 rfl (Rd.pick 0 rfl (by first | exact Rd.own rfl | exact Rd.row rfl))) rfl (fun _ _ _ h => h) ?_; refine any_ro' (i := 16) (by kernel_rfl) rfl rfl (ro_sub rfl rfl (by first | exact wrap_i64_in (by omega) (by omega) | rfl)) rfl (fun _ _ _ h => h) ?_; refine any_ro' (i := 17) (by kernel_rfl) rfl rfl (ro_gtr rfl rfl (decide_eq_false (by omega))) rfl (fun _ _ _ h => h) ?_; refine any_ro' (i := 18) (by kernel_rfl) rfl rfl (ro_pick rfl rfl) rfl (fun _ _ _ h => h) ?_; refine any_doneL (by kernel_rfl) ?_
  repeat (first | refine InBlock_normal ?_ | refine NoGoto_normal ?_ | refine Jump_normal ?_)
  refine Then_normal (wp_condF rfl ?_); refine wp_skip' ?_
  repeat (first | refine InBlock_normal ?_ | refine NoGoto_normal ?_ | refine Jump_normal ?_)
  refine Then_normal (wp_seq' (wp_seq' (wp_region' (ops_ro' rfl (ro_move rfl) rfl (ops_ro' rfl (ro_nilCheck rfl) rfl ?_))))); refine ops_ro' rfl (ro_fieldAddr fa139_2 rfl) rfl (ops_ro' rfl (ro_load sc26 rfl (Rd.pick 0 rfl (by first | exact Rd.own rfl | exact Rd.row rfl))) rfl (ops_ro' rfl (ro_neq rfl rfl (decide_eq_false (by simpa using h))) rfl (ops_ro' rfl (ro_move rfl) rfl (ops_ro' rfl (ro_move rfl) rfl (ops_ro' rfl (ro_leq rfl rfl (decide_eq_true h0)) rfl ?_))))); refine ops_ro' rfl (ro_pick rfl rfl) rfl (ops_nil ?_)
  repeat (first | refine InBlock_normal ?_ | refine NoGoto_normal ?_ | refine Jump_normal ?_)
  refine Then_normal (wp_condT rfl ?_); refine wp_seq' (wp_heap (fun w F s => nil_row 5 1 w F s) ?_); refine wp_region' (ops_ro' rfl (ro_assign rfl) rfl (ops_nil ?_))
  repeat (first | refine InBlock_normal ?_ | refine NoGoto_normal ?_ | refine Jump_normal ?_)
  refine Then_normal (wp_ret' ?_)
  repeat (first | refine Then_ret ?_ | refine InBlock_ret ?_ | refine NoGoto_ret ?_ | refine Jump_ret ?_)
  refine done_ret (res1 rfl rfl) ?_; exact ⟨none, 0, rfl, .inl ⟨rfl, rfl⟩, rfl⟩


theorem take_go (pr pb : Nat) (c : Nat) (r : R) (n : Nat) (h : r.why = 0) (hn : (n : Int) ≤ (r.b.length : Int) - r.pos) (h0 : 0 < n) (hl : r.b.length ≤ 140737488355328) (hp : r.pos ≤ r.b.length) (hcap : r.b.length ≤ c) :
    Tri Try.prog 102 [.pointer (some ⟨pr, 0, none⟩), .int .i64 n] (rd pr (some ⟨pb, 0, none⟩) c r) (fun v H' => ∃ A, Out v ((r.b.drop r.pos).take n) A ∧ H' = A :: rd pr (some ⟨pb, 0, none⟩) c { r with pos := r.pos + n }) := by
  refine tri_of_wp Try.func102 rfl Try.ntmps102 (by simp) ?_; refine wp_seq' (wp_region' (ops_ro' rfl (ro_assign rfl) rfl (ops_nil ?_)))
  repeat (first | refine InBlock_normal ?_ | refine NoGoto_normal ?_ | refine Jump_normal ?_)
  refine Then_normal (wp_seq' (wp_seq' (wp_draw 19 (by kernel_rfl) (Split.all _) ?_))); refine any_ro' (i := 0) (by kernel_rfl) rfl rfl (ro_move rfl) rfl (fun _ _ _ h => h) ?_; refine any_ro' (i := 1) (by kernel_rfl) rfl rfl (ro_nilCheck rfl) rfl (fun _ _ _ h => h) ?_; refine any_ro' (i := 2) (by kernel_rfl) rfl rfl (ro_fieldAddr fa139_2 rfl) rfl (fun _ _ _ h => h) ?_; refine any_ro' (i := 3) (by kernel_rfl) rfl rfl (ro_load sc26 rfl (Rd.pick 0 rfl (by first | exact Rd.own rfl | exact Rd.row rfl))) rfl (fun _ _ _ h => h) ?_; refine any_ro' (i := 4) (by kernel_rfl) rfl rfl (ro_eql rfl rfl (decide_eq_true h)) rfl (fun _ _ _ h => h) ?_; refine any_ro' (i := 5) (by kernel_rfl) rfl rfl (ro_move rfl) rfl (fun _ _ _ h => h) ?_; refine any_ro' (i := 6) (by kernel_rfl) rfl rfl (ro_move rfl) rfl (fun _ _ _ h => h) ?_; refine any_ro' (i := 7) (by kernel_rfl) rfl rfl (ro_move rfl) rfl (fun _ _ _ h => h) ?_; refine any_ro' (i := 8) (by kernel_rfl) rfl rfl (ro_nilCheck rfl) rfl (fun _ _ _ h => h) ?_; refine any_ro' (i := 9) (by kernel_rfl) rfl rfl (ro_fieldAddr fa139_0 rfl) rfl (fun _ _ _ h => h) ?_; refine any_ro' (i := 10) (by kernel_rfl) rfl rfl (ro_load sc30 rfl (Rd.pick 0 rfl (by first | exact Rd.own rfl | exact Rd.row rfl))) rfl (fun _ _ _ h => h) ?_; refine any_ro' (i := 11) (by kernel_rfl) rfl rfl (ro_sliceLen Try.underlying30 rfl) rfl (fun _ _ _ h => h) ?_; refine any_ro' (i := 12) (by kernel_rfl) rfl rfl (ro_move rfl) rfl (fun _ _ _ h => h) ?_; refine any_ro' (i := 13) (by kernel_rfl) rfl rfl (ro_nilCheck rfl) rfl (fun _ _ _ h => h) ?_; refine any_ro' (i := 14) (by kernel_rfl) rfl rfl (ro_fieldAddr fa139_1 rfl) rfl (fun _ _ _ h => h) ?_; refine any_ro' (i := 15) (by kernel_rfl) rfl rfl (ro_load sc3 rfl (Rd.pick 0 rfl (by first | exact Rd.own rfl | exact Rd.row rfl))) rfl (fun _ _ _ h => h) ?_; refine any_ro' (i := 16) (by kernel_rfl) rfl rfl (ro_sub rfl rfl (by first | exact wrap_i64_in (by omega) (by omega) | rfl)) rfl (fun _ _ _ h => h) ?_; refine any_ro' (i := 17) (by kernel_rfl) rfl rfl (ro_gtr rfl rfl (decide_eq_false (by omega))) rfl (fun _ _ _ h => h) ?_; refine any_ro' (i := 18) (by kernel_rfl) rfl rfl (ro_pick rfl rfl) rfl (fun _ _ _ h => h) ?_; refine any_doneL (by kernel_rfl) ?_
  repeat (first | refine InBlock_normal ?_ | refine NoGoto_normal ?_ | refine Jump_normal ?_)
  refine Then_normal (wp_condF rfl ?_); refine wp_skip' ?_
  repeat (first | refine InBlock_normal ?_ | refine NoGoto_normal ?_ | refine Jump_normal ?_)
  refine Then_normal (wp_seq' (wp_seq' (wp_region' (ops_ro' rfl (ro_move rfl) rfl (ops_ro' rfl (ro_nilCheck rfl) rfl ?_))))); refine ops_ro' rfl (ro_fieldAddr fa139_2 rfl) rfl (ops_ro' rfl (ro_load sc26 rfl (Rd.pick 0 rfl (by first | exact Rd.own rfl | exact Rd.row rfl))) rfl (ops_ro' rfl (ro_neq rfl rfl (decide_eq_false (by simpa using h))) rfl (ops_ro' rfl (ro_move rfl) rfl (ops_ro' rfl (ro_move rfl) rfl (ops_ro' rfl (ro_leq rfl rfl (decide_eq_false (by omega))) rfl ?_))))); refine ops_ro' rfl (ro_pick rfl rfl) rfl (ops_nil ?_)
  repeat (first | refine InBlock_normal ?_ | refine NoGoto_normal ?_ | refine Jump_normal ?_)
  refine Then_normal (wp_condF rfl ?_); refine wp_skip' ?_
  repeat (first | refine InBlock_normal ?_ | refine NoGoto_normal ?_ | refine Jump_normal ?_)
  refine Then_normal (wp_seq' (wp_region' (ops_ro' rfl (ro_move rfl) rfl (ops_ro' rfl (ro_nilCheck rfl) rfl (ops_ro' rfl (ro_fieldAddr fa139_1 rfl) rfl ?_))))); refine ops_ro' rfl (ro_load sc3 rfl (Rd.pick 0 rfl (by first | exact Rd.own rfl | exact Rd.row rfl))) rfl (ops_ro' rfl (ro_move rfl) rfl (ops_ro' rfl (ro_add rfl rfl (by first | exact wrap_i64_in (by omega) (by omega) | rfl)) rfl (ops_ro' rfl (ro_nilCheck rfl) rfl (ops_ro' rfl (ro_fieldAddr fa139_1 rfl) rfl (ops_eff0 rfl ((eff_store 0 sc3 rfl rfl rfl rfl (Nat.le_of_ble_eq_true rfl) (warm_zero _))) rfl ?_))))); rintro _ _ rfl; refine ops_nil ?_
  repeat (first | refine InBlock_normal ?_ | refine NoGoto_normal ?_ | refine Jump_normal ?_)
  refine Then_normal (wp_seq' (wp_draw 16 (by kernel_rfl) (Split.cons 0 rfl (Split.nil _)) ?_)); refine any_ro' (i := 0) (by kernel_rfl) rfl rfl (ro_move rfl) rfl (fun _ _ _ h => h) ?_; refine any_ro' (i := 1) (by kernel_rfl) rfl rfl (ro_nilCheck rfl) rfl (fun _ _ _ h => h) ?_; refine any_ro' (i := 2) (by kernel_rfl) rfl rfl (ro_fieldAddr fa139_0 rfl) rfl (fun _ _ _ h => h) ?_; refine any_ro' (i := 3) (by kernel_rfl) rfl rfl (ro_load sc30 rfl (Rd.pick 0 rfl (by first | exact Rd.own rfl | exact Rd.row rfl))) rfl (fun _ _ _ h => h) ?_; refine any_ro' (i := 4) (by kernel_rfl) rfl rfl (ro_move rfl) rfl (fun _ _ _ h => h) ?_; refine any_ro' (i := 5) (by kernel_rfl) rfl rfl (ro_nilCheck rfl) rfl (fun _ _ _ h => h) ?_; refine any_ro' (i := 6) (by kernel_rfl) rfl rfl (ro_fieldAddr fa139_1 rfl) rfl (fun _ _ _ h => h) ?_; refine any_ro' (i := 7) (by kernel_rfl) rfl rfl (ro_load sc3 rfl (Rd.pick 0 rfl (by first | exact Rd.own rfl | exact Rd.row rfl))) rfl (fun _ _ _ h => h) ?_; refine any_ro' (i := 8) (by kernel_rfl) rfl rfl (ro_move rfl) rfl (fun _ _ _ h => h) ?_; refine any_ro' (i := 9) (by kernel_rfl) rfl rfl (ro_sub rfl rfl (by first | exact wrap_i64_in (by omega) (by omega) | rfl)) rfl (fun _ _ _ h => h) ?_; refine any_ro' (i := 10) (by kernel_rfl) rfl rfl (ro_move rfl) rfl (fun _ _ _ h => h) ?_; refine any_ro' (i := 11) (by kernel_rfl) rfl rfl (ro_nilCheck rfl) rfl (fun _ _ _ h => h) ?_; refine any_ro' (i := 12) (by kernel_rfl) rfl rfl (ro_fieldAddr fa139_1 rfl) rfl (fun _ _ _ h => h) ?_; refine any_ro' (i := 13) (by kernel_rfl) rfl rfl (ro_load sc3 rfl (Rd.pick 0 rfl (by first | exact Rd.own rfl | exact Rd.row rfl))) rfl (fun _ _ _ h => h) ?_; refine any_ro' (i := 14) (by kernel_rfl) rfl rfl (ro_slice (l := r.pos) (h := r.pos + n) sl30 rfl (bnd_of rfl (by omega)) (bnd_of rfl (by omega)) (by omega) (by omega)) rfl (fun _ _ _ h => h) ?_; refine any_eff' (i := 15) (by kernel_rfl) rfl rfl (eff_call Try.call40 rfl rfl (Split.cons 0 rfl (Split.nil _)) (clone_spec _ _ _ _ (((cel r.b).drop (r.pos * 1)).take ((r.pos + n - r.pos) * 1)) (Vw.resl RdN.row (by omega) (by omega) hcap (by simp [cel])) (by simp [cel]; omega) (fun v hv => cel_one r.b v (List.mem_of_mem_drop (List.mem_of_mem_take hv))) (by omega))) rfl ?_; rintro _ H' ⟨_, ⟨p', c', rfl, hp, rfl⟩, hH⟩; simp only [zA, zB, zC, zD, zE, zF] at hH; subst hH; refine any_unlock (m' := 17) (L' := []) (by kernel_rfl) unlock ?_; refine any_ro' (i := 16) (by kernel_rfl) rfl rfl (ro_assign rfl) rfl (fun _ _ _ h => h) ?_; refine any_doneH (by kernel_rfl) ?_
  repeat (first | refine InBlock_normal ?_ | refine NoGoto_normal ?_ | refine Jump_normal ?_)
  refine Then_normal (wp_front 1 rfl ?_); refine wp_ret' ?_
  repeat (first | refine Then_ret ?_ | refine InBlock_ret ?_ | refine NoGoto_ret ?_ | refine Jump_ret ?_)
  refine done_ret (res1 rfl rfl) ?_; have hk : (List.take n (List.drop r.pos r.b)).length = n := by simp; omega
  have he : r.pos + n - r.pos = n := by omega
  rcases hp with ⟨h1, _⟩ | ⟨_, b, rfl⟩
  · cases h1
  refine ⟨_, ⟨some ⟨b, 0, none⟩, c', ?_, .inr ⟨b, rfl⟩, rfl⟩, ?_⟩
  · rw [hk, he]
  · rw [hk, he]; simp [cel, rd]


theorem out_nil {v : Value} {A : HProp} {p : Option Addr} {c : Nat} (h1 : v = .slice p 0 c) (h2 : (p = none ∧ ([] : List UInt8) = []) ∨ ∃ b, p = some ⟨b, 0, none⟩) (h3 : A = row 5 1 (.slice p 0 c) 0 []) : Out v [] A := ⟨p, c, h1, h2, h3⟩
theorem take_spec (pr : Nat) (p : Option Addr) (c : Nat) (r : R) (n : Int) (hl : r.b.length ≤ 140737488355328) (hp : r.pos ≤ r.b.length) :
    Tri Try.prog 102 [.pointer (some ⟨pr, 0, none⟩), .int .i64 n] (rd pr p c r) (fun v H' => ∃ A, Out v (r.take n).2 A ∧ H' = A :: rd pr p c (r.take n).1) := by
  by_cases h : r.why = 0
  · by_cases hn : (r.b.length : Int) - r.pos < n
    · refine tri_post (take_end pr p c r n h hn hl hp) ?_; rintro v H ⟨p', c', h1, h2, rfl⟩; have e : r.take n = (r.refuse 10 r.b.length, []) := by simp [R.take, h, hn]
      rw [e]; exact ⟨_, out_nil h1 h2 rfl, rfl⟩
    · by_cases h0 : n ≤ 0
      · refine tri_post (take_none pr p c r n h (by omega) h0 hl hp) ?_; rintro v H ⟨p', c', h1, h2, rfl⟩; have e : r.take n = (r, []) := by simp [R.take, h, hn, h0]
        rw [e]; exact ⟨_, out_nil h1 h2 rfl, rfl⟩
      · refine tri_know (p := ∃ b, p = some ⟨b, 0, none⟩ ∧ r.b.length ≤ c) (fun w F s => ?_) ?_
        · rcases (row_shape 1 rfl s).2 with ⟨h1, h2, _⟩ | ⟨b, cap, h1, h2, _⟩
          · omega
          · injection h1 with h1 _ h3; subst h3; exact ⟨b, h1, h2⟩
        · rintro ⟨b, rfl, hc⟩; obtain ⟨k, rfl⟩ : ∃ k : Nat, n = k := ⟨n.toNat, by omega⟩
          refine tri_post (take_go pr b c r k h (by omega) (by omega) hl hp hc) ?_; rintro v H ⟨A, hA, rfl⟩
          have e : r.take (k : Int) = ({ r with pos := r.pos + k }, (r.b.drop r.pos).take k) := by simp only [R.take, h]; simp [hn, h0]; omega
          rw [e]; exact ⟨A, hA, rfl⟩
  · refine tri_post (take_refused pr p c r n h) ?_; rintro v H ⟨p', c', h1, h2, rfl⟩; have e : r.take n = (r, []) := by simp [R.take, h]
    rw [e]; exact ⟨_, out_nil h1 h2 rfl, rfl⟩
theorem take_pos (r : R) (n : Int) (h : r.pos ≤ r.b.length) : (r.take n).1.pos ≤ (r.take n).1.b.length := by
  rw [take_b]; unfold R.take R.refuse; repeat' split
  all_goals simp only
  all_goals omega
theorem take_len (r : R) (n : Int) : (r.take n).2.length ≤ n.toNat := by
  unfold R.take; repeat' split
  all_goals simp
  all_goals omega


theorem shl8 {v : Nat} (h : v < 72057594037927936) : IntKind.u64.wrap ((v : Int) * 2 ^ (min (8 : Int).toNat 64)) = ((v * 256 : Nat) : Int) := by
  rw [wrap_u64_mod]; have : (2 : Int) ^ (min (8 : Int).toNat 64) = 256 := by decide
  rw [this]; omega
theorem bits_nat_or {a b : Nat} (ha : a < 18446744073709551616) (hb : b < 18446744073709551616) : bits .or .u64 (a : Int) (b : Int) = ((a ||| b : Nat) : Int) := by
  show IntKind.u64.wrap ((BitVec.ofInt 64 (a : Int) ||| BitVec.ofInt 64 (b : Int)).toNat : Int) = _
  have e1 : BitVec.ofInt 64 (a : Int) = BitVec.ofNat 64 a := by simp
  have e2 : BitVec.ofInt 64 (b : Int) = BitVec.ofNat 64 b := by simp
  rw [e1, e2, BitVec.toNat_or, BitVec.toNat_ofNat, BitVec.toNat_ofNat, Nat.mod_eq_of_lt ha, Nat.mod_eq_of_lt hb]; exact wrap_u64_in (by omega) (by have := Nat.or_lt_two_pow (n := 64) (x := a) (y := b) ha hb; omega)
theorem or8 {v c : Nat} (h : v < 72057594037927936) (hc : c < 256) : bits .or .u64 ((v * 256 : Nat) : Int) (c : Int) = ((v * 256 + c : Nat) : Int) := by
  rw [bits_nat_or (by omega) (by omega)]; have h1 := Nat.shiftLeft_add_eq_or_of_lt (i := 8) (b := c) hc v
  rw [Nat.shiftLeft_eq] at h1; rw [← h1]
theorem val_snoc (l : List UInt8) (c : UInt8) : val (l ++ [c]) = val l * 256 + c.toNat := by simp [val, List.foldl_append]
theorem val_lt : ∀ (l : List UInt8), val l < 256 ^ l.length := by
  intro l
  induction hl : l.length generalizing l with
  | zero => rw [List.eq_nil_of_length_eq_zero hl]; simp [val]
  | succ n ih =>
    obtain ⟨l', c, rfl⟩ : ∃ l' c, l = l' ++ [c] := ⟨l.dropLast, l.getLast (by intro h; simp [h] at hl), (List.dropLast_concat_getLast _).symm⟩
    have := ih l' (by simpa using hl)
    have hc := UInt8.toNat_lt c
    rw [val_snoc, Nat.pow_succ]; omega


theorem get_spec (pr : Nat) (p : Option Addr) (c : Nat) (r : R) (size : Nat) (h8 : size ≤ 8) (hl : r.b.length ≤ 140737488355328) (hp : r.pos ≤ r.b.length) :
    Tri Try.prog 81 [.pointer (some ⟨pr, 0, none⟩), .int .i64 size] (rd pr p c r) (fun v H' => v = .int .u64 (r.get size).2 ∧ H' = rd pr p c (r.get size).1) := by
  refine tri_of_wp Try.func81 rfl Try.ntmps81 (by simp) ?_; refine wp_seq' (wp_region' (ops_ro' rfl (ro_assign rfl) rfl (ops_nil ?_)))
  repeat (first | refine InBlock_normal ?_ | refine NoGoto_normal ?_ | refine Jump_normal ?_)
  refine Then_normal (wp_seq' (wp_region' (ops_ro' rfl (ro_assign rfl) rfl (ops_nil ?_))))
  repeat (first | refine InBlock_normal ?_ | refine NoGoto_normal ?_ | refine Jump_normal ?_)
  refine Then_normal (wp_seq' (wp_seq' (wp_region' (ops_ro' rfl (ro_move rfl) rfl (ops_ro' rfl (ro_move rfl) rfl ?_))))); refine ops_eff' rfl (eff_call Try.call102 rfl rfl (Split.cons 0 rfl (Split.cons 0 rfl (Split.nil _))) (take_spec pr p c r size hl hp)) rfl ?_; rintro _ H' ⟨_, ⟨A, ⟨p', c', rfl, hs, rfl⟩, rfl⟩, hH⟩; simp only [zA, zB, zC, zD, zE, zF] at hH; subst hH; have ho := take_len r size
  rw [R.get]; generalize (r.take (size : Int)).2 = out at *
  generalize (r.take (size : Int)).1 = r1 at *
  refine ops_ro' rfl (ro_sliceLen Try.underlying30 rfl) rfl (ops_ro' rfl (ro_move rfl) rfl (ops_nil ?_))
  repeat (first | refine InBlock_normal ?_ | refine NoGoto_normal ?_ | refine Jump_normal ?_)
  refine Then_normal (wp_block' ?_); refine wp_loop' (fun m Γ H => ∃ k, k + m = out.length ∧ Has Γ [(5, .int .u64 (val (out.take k) : Nat)), (10, .slice p' out.length c'), (11, .int .i64 out.length), (12, .int .i64 k)] ∧ H = row 5 1 (.slice p' out.length c') out.length (cel out) :: rd pr p c r1) (m := out.length) ⟨0, by omega, Has.cons rfl (Has.cons rfl (Has.cons rfl (Has.cons rfl (Has.nil _)))), rfl⟩ ?_; rintro m Γ H ⟨k, hk, hΓ, rfl⟩; refine wp_has hΓ ?_; refine wp_seq' (wp_region' (ops_ro' rfl (ro_lss rfl rfl rfl) rfl (ops_nil ?_)))
  repeat (first | refine InBlock_normal ?_ | refine NoGoto_normal ?_ | refine Jump_normal ?_)
  refine Then_normal (wp_seq' (wp_cond' rfl (fun hc0 => ?_) (fun hc0 => ?_)))
  · try replace hc0 := of_decide_eq_true hc0
    obtain ⟨b, rfl⟩ : ∃ b, p' = some ⟨b, 0, none⟩ := by
      rcases hs with ⟨_, rfl⟩ | h
      · simp at hc0; omega
      · exact h
    have hk1 : k < out.length := by omega
    have hv := val_lt (out.take k)
    have hv2 : val (out.take k) < 72057594037927936 := by
      refine Nat.lt_of_lt_of_le hv (Nat.le_trans (Nat.pow_le_pow_right (by omega) (show (out.take k).length ≤ 7 by simp; omega)) (by decide))
    have hb := UInt8.toNat_lt out[k]
    refine wp_skip' ?_
    repeat (first | refine InBlock_normal ?_ | refine NoGoto_normal ?_ | refine Jump_normal ?_)
    refine Then_normal (wp_seq' (wp_block' ?_)); refine wp_seq' (wp_region' (ops_ro' rfl (ro_indexSlice sl30 rfl rfl rfl (by omega)) rfl (ops_ro' rfl (ro_load sc5 rfl (Rd.pick 0 rfl (Rd.row (by simpa using cel_get hk1)))) rfl (ops_ro' rfl (ro_assign rfl) rfl (ops_nil ?_)))))
    repeat (first | refine InBlock_normal ?_ | refine NoGoto_normal ?_ | refine Jump_normal ?_)
    refine Then_normal (wp_region' (ops_ro' rfl (ro_move rfl) rfl (ops_ro' rfl (ro_shl rfl rfl (by omega) (shl8 hv2)) rfl (ops_ro' rfl (ro_move rfl) rfl (ops_ro' rfl (ro_conv Try.underlying5 Try.underlying34 rfl (wrap_u64_in (by omega) (by omega))) rfl ?_))))); refine ops_ro' rfl (ro_or rfl rfl (or8 hv2 hb)) rfl (ops_ro' rfl (ro_assign rfl) rfl (ops_nil ?_))
    repeat (first | refine InBlock_normal ?_ | refine NoGoto_normal ?_ | refine Jump_normal ?_)
    refine Then_normal (wp_region' ?_); refine ops_ro' rfl (ro_add rfl rfl (show IntKind.i64.wrap ((k : Int) + 1) = ((k + 1 : Nat) : Int) from by rw [wrap_i64_in (by omega) (by omega)]; omega)) rfl (ops_ro' rfl (ro_move rfl) rfl (ops_nil ?_))
    repeat (first | refine InBlock_normal ?_ | refine NoGoto_normal ?_ | refine Jump_normal ?_)
    refine Then_normal ?_; refine ⟨m - 1, by omega, k + 1, by omega, Has.cons ?_ (Has.cons rfl (Has.cons rfl (Has.cons rfl (Has.nil _)))), rfl⟩; rw [List.take_succ_eq_append_getElem hk1, val_snoc]; rfl
  · try replace hc0 := of_decide_eq_false hc0
    refine wp_exit' ?_
    repeat (first | refine Then_exit ?_ | refine NoGoto_exit ?_ | refine Jump_exit ?_ | refine InBlock_here ?_ | refine InBlock_far rfl ?_)
    repeat (first | refine InBlock_normal ?_ | refine NoGoto_normal ?_ | refine Jump_normal ?_)
    refine Then_normal (wp_seq' (wp_region' (ops_ro' rfl (ro_move rfl) rfl (ops_ro' rfl (ro_assign rfl) rfl (ops_nil ?_)))))
    repeat (first | refine InBlock_normal ?_ | refine NoGoto_normal ?_ | refine Jump_normal ?_)
    refine Then_normal (wp_drop 0 ?_); refine wp_ret' ?_
    repeat (first | refine Then_ret ?_ | refine InBlock_ret ?_ | refine NoGoto_ret ?_ | refine Jump_ret ?_)
    refine done_ret (res1 rfl rfl) ?_; refine ⟨?_, rfl⟩; rw [List.take_of_length_le (by omega)]


theorem get_lt (r : R) (size : Nat) : (r.get size).2 < 256 ^ size := by
  have h1 := take_len r size
  have h2 := val_lt (r.take (size : Int)).2
  refine Nat.lt_of_lt_of_le h2 (Nat.pow_le_pow_right (by omega) (by omega))
theorem rU32_spec (pr : Nat) (p : Option Addr) (c : Nat) (r : R) (hl : r.b.length ≤ 140737488355328) (hp : r.pos ≤ r.b.length) :
    Tri Try.prog 83 [.pointer (some ⟨pr, 0, none⟩)] (rd pr p c r) (fun v H' => v = .int .u32 (r.get 4).2 ∧ H' = rd pr p c (r.get 4).1) := by
  refine tri_of_wp Try.func83 rfl Try.ntmps83 (by simp) ?_; refine wp_seq' (wp_region' (ops_ro' rfl (ro_assign rfl) rfl (ops_nil ?_)))
  repeat (first | refine InBlock_normal ?_ | refine NoGoto_normal ?_ | refine Jump_normal ?_)
  refine Then_normal (wp_seq' (wp_region' (ops_ro' rfl (ro_move rfl) rfl (ops_eff' rfl (eff_call Try.call81 rfl rfl (Split.cons 0 rfl (Split.cons 0 rfl (Split.nil _))) (get_spec pr p c r 4 (by omega) hl hp)) rfl ?_)))); rintro _ H' ⟨_, ⟨rfl, rfl⟩, hH⟩; simp only [zA, zB, zC, zD, zE, zF] at hH; subst hH; refine ops_ro' rfl (ro_conv Try.underlying34 Try.underlying37 rfl (wrap_u32_in (by omega) (by have := get_lt r 4; simp at this; omega))) rfl (ops_ro' rfl (ro_assign rfl) rfl (ops_nil ?_))
  repeat (first | refine InBlock_normal ?_ | refine NoGoto_normal ?_ | refine Jump_normal ?_)
  refine Then_normal (wp_ret' ?_)
  repeat (first | refine Then_ret ?_ | refine InBlock_ret ?_ | refine NoGoto_ret ?_ | refine Jump_ret ?_)
  refine done_ret (res1 rfl rfl) ?_; exact ⟨rfl, rfl⟩
theorem rU64_spec (pr : Nat) (p : Option Addr) (c : Nat) (r : R) (hl : r.b.length ≤ 140737488355328) (hp : r.pos ≤ r.b.length) :
    Tri Try.prog 52 [.pointer (some ⟨pr, 0, none⟩)] (rd pr p c r) (fun v H' => v = .int .u64 (r.get 8).2 ∧ H' = rd pr p c (r.get 8).1) := by
  refine tri_of_wp Try.func52 rfl Try.ntmps52 (by simp) ?_; refine wp_seq' (wp_region' (ops_ro' rfl (ro_assign rfl) rfl (ops_nil ?_)))
  repeat (first | refine InBlock_normal ?_ | refine NoGoto_normal ?_ | refine Jump_normal ?_)
  refine Then_normal (wp_seq' (wp_region' (ops_ro' rfl (ro_move rfl) rfl (ops_eff' rfl (eff_call Try.call81 rfl rfl (Split.cons 0 rfl (Split.cons 0 rfl (Split.nil _))) (get_spec pr p c r 8 (by omega) hl hp)) rfl ?_)))); rintro _ H' ⟨_, ⟨rfl, rfl⟩, hH⟩; simp only [zA, zB, zC, zD, zE, zF] at hH; subst hH; refine ops_ro' rfl (ro_assign rfl) rfl (ops_nil ?_)
  repeat (first | refine InBlock_normal ?_ | refine NoGoto_normal ?_ | refine Jump_normal ?_)
  refine Then_normal (wp_ret' ?_)
  repeat (first | refine Then_ret ?_ | refine InBlock_ret ?_ | refine NoGoto_ret ?_ | refine Jump_ret ?_)
  refine done_ret (res1 rfl rfl) ?_; exact ⟨rfl, rfl⟩
def R.fail (r : R) (why : Int) : R := if why = 0 then r else r.refuse why r.pos
theorem fine_spec (pr : Nat) (p : Option Addr) (c : Nat) (r : R) :
    Tri Try.prog 84 [.pointer (some ⟨pr, 0, none⟩)] (rd pr p c r) (fun v H' => v = .bool (decide (r.why = 0)) ∧ H' = rd pr p c r) := by
  refine tri_of_wp Try.func84 rfl Try.ntmps84 (by simp) ?_; refine wp_seq' (wp_region' (ops_ro' rfl (ro_assign rfl) rfl (ops_nil ?_)))
  repeat (first | refine InBlock_normal ?_ | refine NoGoto_normal ?_ | refine Jump_normal ?_)
  refine Then_normal (wp_seq' (wp_region' (ops_ro' rfl (ro_move rfl) rfl (ops_ro' rfl (ro_nilCheck rfl) rfl (ops_ro' rfl (ro_fieldAddr fa139_2 rfl) rfl ?_))))); refine ops_ro' rfl (ro_load sc26 rfl (Rd.pick 0 rfl (by first | exact Rd.own rfl | exact Rd.row rfl))) rfl (ops_ro' rfl (ro_eql rfl rfl rfl) rfl (ops_ro' rfl (ro_assign rfl) rfl (ops_nil ?_)))
  repeat (first | refine InBlock_normal ?_ | refine NoGoto_normal ?_ | refine Jump_normal ?_)
  refine Then_normal (wp_ret' ?_)
  repeat (first | refine Then_ret ?_ | refine InBlock_ret ?_ | refine NoGoto_ret ?_ | refine Jump_ret ?_)
  refine done_ret (res1 rfl rfl) ?_; exact ⟨rfl, rfl⟩
def R.left (r : R) : Int := if r.why = 0 then r.b.length - r.pos else 0
/-- the refusal, and its place -/
def R.fin (r : R) : Int × Int := if r.why = 0 then (if r.pos < r.b.length then (11, r.pos) else (0, 0)) else (r.why, r.place)
theorem end_spec (pr : Nat) (p : Option Addr) (c : Nat) (r : R) (hl : r.b.length ≤ 140737488355328) (hp : r.pos ≤ r.b.length) :
    Tri Try.prog 86 [.pointer (some ⟨pr, 0, none⟩)] (rd pr p c r) (fun v H' => v = .tuple #[.int .i64 r.fin.1, .int .i64 r.fin.2] ∧ H' = rd pr p c r) := by
  by_cases h : r.why = 0
  · by_cases h2 : r.pos < r.b.length
    · skip; refine tri_of_wp Try.func86 rfl Try.ntmps86 (by simp) ?_; refine wp_seq' (wp_region' (ops_ro' rfl (ro_assign rfl) rfl (ops_ro' rfl (ro_assign rfl) rfl (ops_nil ?_))))
      repeat (first | refine InBlock_normal ?_ | refine NoGoto_normal ?_ | refine Jump_normal ?_)
      refine Then_normal (wp_seq' (wp_block' ?_)); refine wp_seq' (wp_region' (ops_ro' rfl (ro_move rfl) rfl (ops_ro' rfl (ro_nilCheck rfl) rfl (ops_ro' rfl (ro_fieldAddr fa139_2 rfl) rfl (ops_ro' rfl (ro_load sc26 rfl (Rd.pick 0 rfl (by first | exact Rd.own rfl | exact Rd.row rfl))) rfl ?_))))); refine ops_ro' rfl (ro_neq rfl rfl (decide_eq_false (by simpa using h))) rfl (ops_ro' rfl (ro_assign rfl) rfl (ops_nil ?_))
      repeat (first | refine InBlock_normal ?_ | refine NoGoto_normal ?_ | refine Jump_normal ?_)
      refine Then_normal (wp_condF rfl ?_); refine wp_seq' (wp_draw 11 (by kernel_rfl) (Split.all _) ?_); refine any_ro' (i := 0) (by kernel_rfl) rfl rfl (ro_move rfl) rfl (fun _ _ _ h => h) ?_; refine any_ro' (i := 1) (by kernel_rfl) rfl rfl (ro_nilCheck rfl) rfl (fun _ _ _ h => h) ?_; refine any_ro' (i := 2) (by kernel_rfl) rfl rfl (ro_fieldAddr fa139_1 rfl) rfl (fun _ _ _ h => h) ?_; refine any_ro' (i := 3) (by kernel_rfl) rfl rfl (ro_load sc3 rfl (Rd.pick 0 rfl (by first | exact Rd.own rfl | exact Rd.row rfl))) rfl (fun _ _ _ h => h) ?_; refine any_ro' (i := 4) (by kernel_rfl) rfl rfl (ro_move rfl) rfl (fun _ _ _ h => h) ?_; refine any_ro' (i := 5) (by kernel_rfl) rfl rfl (ro_nilCheck rfl) rfl (fun _ _ _ h => h) ?_; refine any_ro' (i := 6) (by kernel_rfl) rfl rfl (ro_fieldAddr fa139_0 rfl) rfl (fun _ _ _ h => h) ?_; refine any_ro' (i := 7) (by kernel_rfl) rfl rfl (ro_load sc30 rfl (Rd.pick 0 rfl (by first | exact Rd.own rfl | exact Rd.row rfl))) rfl (fun _ _ _ h => h) ?_; refine any_ro' (i := 8) (by kernel_rfl) rfl rfl (ro_sliceLen Try.underlying30 rfl) rfl (fun _ _ _ h => h) ?_; refine any_ro' (i := 9) (by kernel_rfl) rfl rfl (ro_lss rfl rfl (decide_eq_true (by omega))) rfl (fun _ _ _ h => h) ?_; refine any_ro' (i := 10) (by kernel_rfl) rfl rfl (ro_assign rfl) rfl (fun _ _ _ h => h) ?_; refine any_doneL (by kernel_rfl) ?_
      repeat (first | refine InBlock_normal ?_ | refine NoGoto_normal ?_ | refine Jump_normal ?_)
      refine Then_normal (wp_condT rfl ?_); refine wp_seq' (wp_draw 5 (by kernel_rfl) (Split.all _) ?_); refine any_ro' (i := 0) (by kernel_rfl) rfl rfl (ro_move rfl) rfl (fun _ _ _ h => h) ?_; refine any_ro' (i := 1) (by kernel_rfl) rfl rfl (ro_nilCheck rfl) rfl (fun _ _ _ h => h) ?_; refine any_ro' (i := 2) (by kernel_rfl) rfl rfl (ro_fieldAddr fa139_1 rfl) rfl (fun _ _ _ h => h) ?_; refine any_ro' (i := 3) (by kernel_rfl) rfl rfl (ro_load sc3 rfl (Rd.pick 0 rfl (by first | exact Rd.own rfl | exact Rd.row rfl))) rfl (fun _ _ _ h => h) ?_; refine any_ro' (i := 4) (by kernel_rfl) rfl rfl (ro_assign rfl) rfl (fun _ _ _ h => h) ?_; refine any_unlock (m' := 6) (L' := []) (by kernel_rfl) unlock ?_; refine any_ro' (i := 5) (by kernel_rfl) rfl rfl (ro_assign rfl) rfl (fun _ _ _ h => h) ?_; refine any_doneH (by kernel_rfl) ?_
      repeat (first | refine InBlock_normal ?_ | refine NoGoto_normal ?_ | refine Jump_normal ?_)
      refine Then_normal (wp_ret' ?_)
      repeat (first | refine Then_ret ?_ | refine InBlock_ret ?_ | refine NoGoto_ret ?_ | refine Jump_ret ?_)
      refine done_ret (res2 rfl rfl rfl) ?_; exact ⟨by simp only [R.fin, if_pos h, if_pos h2], rfl⟩
    · skip; refine tri_of_wp Try.func86 rfl Try.ntmps86 (by simp) ?_; refine wp_seq' (wp_region' (ops_ro' rfl (ro_assign rfl) rfl (ops_ro' rfl (ro_assign rfl) rfl (ops_nil ?_))))
      repeat (first | refine InBlock_normal ?_ | refine NoGoto_normal ?_ | refine Jump_normal ?_)
      refine Then_normal (wp_seq' (wp_block' ?_)); refine wp_seq' (wp_region' (ops_ro' rfl (ro_move rfl) rfl (ops_ro' rfl (ro_nilCheck rfl) rfl (ops_ro' rfl (ro_fieldAddr fa139_2 rfl) rfl (ops_ro' rfl (ro_load sc26 rfl (Rd.pick 0 rfl (by first | exact Rd.own rfl | exact Rd.row rfl))) rfl ?_))))); refine ops_ro' rfl (ro_neq rfl rfl (decide_eq_false (by simpa using h))) rfl (ops_ro' rfl (ro_assign rfl) rfl (ops_nil ?_))
      repeat (first | refine InBlock_normal ?_ | refine NoGoto_normal ?_ | refine Jump_normal ?_)
      refine Then_normal (wp_condF rfl ?_); refine wp_seq' (wp_draw 11 (by kernel_rfl) (Split.all _) ?_); refine any_ro' (i := 0) (by kernel_rfl) rfl rfl (ro_move rfl) rfl (fun _ _ _ h => h) ?_; refine any_ro' (i := 1) (by kernel_rfl) rfl rfl (ro_nilCheck rfl) rfl (fun _ _ _ h => h) ?_; refine any_ro' (i := 2) (by kernel_rfl) rfl rfl (ro_fieldAddr fa139_1 rfl) rfl (fun _ _ _ h => h) ?_; refine any_ro' (i := 3) (by kernel_rfl) rfl rfl (ro_load sc3 rfl (Rd.pick 0 rfl (by first | exact Rd.own rfl | exact Rd.row rfl))) rfl (fun _ _ _ h => h) ?_; refine any_ro' (i := 4) (by kernel_rfl) rfl rfl (ro_move rfl) rfl (fun _ _ _ h => h) ?_; refine any_ro' (i := 5) (by kernel_rfl) rfl rfl (ro_nilCheck rfl) rfl (fun _ _ _ h => h) ?_; refine any_ro' (i := 6) (by kernel_rfl) rfl rfl (ro_fieldAddr fa139_0 rfl) rfl (fun _ _ _ h => h) ?_; refine any_ro' (i := 7) (by kernel_rfl) rfl rfl (ro_load sc30 rfl (Rd.pick 0 rfl (by first | exact Rd.own rfl | exact Rd.row rfl))) rfl (fun _ _ _ h => h) ?_; refine any_ro' (i := 8) (by kernel_rfl) rfl rfl (ro_sliceLen Try.underlying30 rfl) rfl (fun _ _ _ h => h) ?_; refine any_ro' (i := 9) (by kernel_rfl) rfl rfl (ro_lss rfl rfl (decide_eq_false (by omega))) rfl (fun _ _ _ h => h) ?_; refine any_ro' (i := 10) (by kernel_rfl) rfl rfl (ro_assign rfl) rfl (fun _ _ _ h => h) ?_; refine any_doneL (by kernel_rfl) ?_
      repeat (first | refine InBlock_normal ?_ | refine NoGoto_normal ?_ | refine Jump_normal ?_)
      refine Then_normal (wp_condF rfl ?_); refine wp_skip' ?_
      repeat (first | refine InBlock_normal ?_ | refine NoGoto_normal ?_ | refine Jump_normal ?_)
      refine Then_normal (wp_seq' (wp_region' (ops_ro' rfl (ro_assign rfl) rfl (ops_ro' rfl (ro_assign rfl) rfl (ops_nil ?_)))))
      repeat (first | refine InBlock_normal ?_ | refine NoGoto_normal ?_ | refine Jump_normal ?_)
      refine Then_normal (wp_ret' ?_)
      repeat (first | refine Then_ret ?_ | refine InBlock_ret ?_ | refine NoGoto_ret ?_ | refine Jump_ret ?_)
      refine done_ret (res2 rfl rfl rfl) ?_; exact ⟨by simp only [R.fin, if_pos h, if_neg h2], rfl⟩
  · skip; refine tri_of_wp Try.func86 rfl Try.ntmps86 (by simp) ?_; refine wp_seq' (wp_region' (ops_ro' rfl (ro_assign rfl) rfl (ops_ro' rfl (ro_assign rfl) rfl (ops_nil ?_))))
    repeat (first | refine InBlock_normal ?_ | refine NoGoto_normal ?_ | refine Jump_normal ?_)
    refine Then_normal (wp_seq' (wp_block' ?_)); refine wp_seq' (wp_region' (ops_ro' rfl (ro_move rfl) rfl (ops_ro' rfl (ro_nilCheck rfl) rfl (ops_ro' rfl (ro_fieldAddr fa139_2 rfl) rfl (ops_ro' rfl (ro_load sc26 rfl (Rd.pick 0 rfl (by first | exact Rd.own rfl | exact Rd.row rfl))) rfl ?_))))); refine ops_ro' rfl (ro_neq rfl rfl (decide_eq_true h)) rfl (ops_ro' rfl (ro_assign rfl) rfl (ops_nil ?_))
    repeat (first | refine InBlock_normal ?_ | refine NoGoto_normal ?_ | refine Jump_normal ?_)
    refine Then_normal (wp_condT rfl ?_); refine wp_seq' (wp_draw 9 (by kernel_rfl) (Split.all _) ?_); refine any_ro' (i := 0) (by kernel_rfl) rfl rfl (ro_move rfl) rfl (fun _ _ _ h => h) ?_; refine any_ro' (i := 1) (by kernel_rfl) rfl rfl (ro_nilCheck rfl) rfl (fun _ _ _ h => h) ?_; refine any_ro' (i := 2) (by kernel_rfl) rfl rfl (ro_fieldAddr fa139_2 rfl) rfl (fun _ _ _ h => h) ?_; refine any_ro' (i := 3) (by kernel_rfl) rfl rfl (ro_load sc26 rfl (Rd.pick 0 rfl (by first | exact Rd.own rfl | exact Rd.row rfl))) rfl (fun _ _ _ h => h) ?_; refine any_ro' (i := 4) (by kernel_rfl) rfl rfl (ro_move rfl) rfl (fun _ _ _ h => h) ?_; refine any_ro' (i := 5) (by kernel_rfl) rfl rfl (ro_nilCheck rfl) rfl (fun _ _ _ h => h) ?_; refine any_ro' (i := 6) (by kernel_rfl) rfl rfl (ro_fieldAddr fa139_3 rfl) rfl (fun _ _ _ h => h) ?_; refine any_ro' (i := 7) (by kernel_rfl) rfl rfl (ro_load sc3 rfl (Rd.pick 0 rfl (by first | exact Rd.own rfl | exact Rd.row rfl))) rfl (fun _ _ _ h => h) ?_; refine any_ro' (i := 8) (by kernel_rfl) rfl rfl (ro_assign rfl) rfl (fun _ _ _ h => h) ?_; refine any_unlock (m' := 10) (L' := []) (by kernel_rfl) unlock ?_; refine any_ro' (i := 9) (by kernel_rfl) rfl rfl (ro_assign rfl) rfl (fun _ _ _ h => h) ?_; refine any_doneH (by kernel_rfl) ?_
    repeat (first | refine InBlock_normal ?_ | refine NoGoto_normal ?_ | refine Jump_normal ?_)
    refine Then_normal (wp_ret' ?_)
    repeat (first | refine Then_ret ?_ | refine InBlock_ret ?_ | refine NoGoto_ret ?_ | refine Jump_ret ?_)
    refine done_ret (res2 rfl rfl rfl) ?_; exact ⟨by simp only [R.fin, if_neg h], rfl⟩
theorem all_spec (pr : Nat) (p : Option Addr) (c : Nat) (r : R) (hl : r.b.length ≤ 140737488355328) (hp : r.pos ≤ r.b.length) :
    Tri Try.prog 54 [.pointer (some ⟨pr, 0, none⟩)] (rd pr p c r) (fun v H' => v = .bool (decide (r.fin.1 = 0)) ∧ H' = rd pr p c r) := by
  refine tri_of_wp Try.func54 rfl Try.ntmps54 (by simp) ?_; refine wp_seq' (wp_region' (ops_ro' rfl (ro_assign rfl) rfl (ops_nil ?_)))
  repeat (first | refine InBlock_normal ?_ | refine NoGoto_normal ?_ | refine Jump_normal ?_)
  refine Then_normal (wp_seq' (wp_region' (ops_ro' rfl (ro_move rfl) rfl (ops_eff' rfl (eff_call Try.call86 rfl rfl (Split.cons 0 rfl (Split.cons 0 rfl (Split.nil _))) (end_spec pr p c r hl hp)) rfl ?_)))); rintro _ H' ⟨_, ⟨rfl, rfl⟩, hH⟩; simp only [zA, zB, zC, zD, zE, zF] at hH; subst hH; refine ops_ro' rfl (ro_move rfl) rfl (ops_ro' rfl (ro_extract rfl rfl) rfl (ops_ro' rfl (ro_extract rfl rfl) rfl (ops_ro' rfl (ro_assign rfl) rfl (ops_ro' rfl (ro_assign rfl) rfl (ops_nil ?_)))))
  repeat (first | refine InBlock_normal ?_ | refine NoGoto_normal ?_ | refine Jump_normal ?_)
  refine Then_normal (wp_seq' (wp_region' (ops_ro' rfl (ro_move rfl) rfl (ops_ro' rfl (ro_eql rfl rfl rfl) rfl (ops_ro' rfl (ro_assign rfl) rfl ?_))))); refine ops_nil ?_
  repeat (first | refine InBlock_normal ?_ | refine NoGoto_normal ?_ | refine Jump_normal ?_)
  refine Then_normal (wp_ret' ?_)
  repeat (first | refine Then_ret ?_ | refine InBlock_ret ?_ | refine NoGoto_ret ?_ | refine Jump_ret ?_)
  refine done_ret (res1 rfl rfl) ?_; exact ⟨rfl, rfl⟩

end Go.Proofs.Ytbbmhppkhcodfaa
namespace Go.Proofs.Ytbbmhppkhcodfaa
open Go.Sx
set_option linter.unusedVariables false
set_option linter.unusedSimpArgs false
set_option maxRecDepth 100000

/-- attributes -/
structure At where
  f : Nat
  s : Nat
  u : Nat
  g : Nat
  m : Nat
  a : Nat
  t : Nat
  deriving DecidableEq
def At.cs (x : At) : List Value := [.int .u32 x.f, .int .u64 x.s, .int .u32 x.u, .int .u32 x.g, .int .u32 x.m, .int .u32 x.a, .int .u32 x.t]
abbrev At.v (x : At) : Value := .agg x.cs.toArray
def At.zero : At := ⟨0, 0, 0, 0, 0, 0, 0⟩
structure At.Ok (x : At) : Prop where
  f : x.f < 4294967296
  s : x.s < 18446744073709551616
  u : x.u < 4294967296
  g : x.g < 4294967296
  m : x.m < 4294967296
  a : x.a < 4294967296
  t : x.t < 4294967296
theorem At.zero_ok : At.zero.Ok := ⟨by decide, by decide, by decide, by decide, by decide, by decide, by decide⟩
theorem and32 {a c : Nat} {cc : Int} (ha : a < 4294967296) (hc : c < 4294967296) (hcc : cc = (c : Int)) : bits .and .u32 (a : Int) cc = ((a &&& c : Nat) : Int) := by
  subst hcc
  show IntKind.u32.wrap ((BitVec.ofInt 32 (a : Int) &&& BitVec.ofInt 32 (c : Int)).toNat : Int) = _
  have e1 : BitVec.ofInt 32 (a : Int) = BitVec.ofNat 32 a := by simp
  have e2 : BitVec.ofInt 32 (c : Int) = BitVec.ofNat 32 c := by simp
  rw [e1, e2, BitVec.toNat_and, BitVec.toNat_ofNat, BitVec.toNat_ofNat, Nat.mod_eq_of_lt ha, Nat.mod_eq_of_lt hc]; have : a &&& c ≤ a := Nat.and_le_left
  exact wrap_u32_in (by omega) (by omega)
theorem or32 {a c : Nat} (ha : a < 4294967296) (hc : c < 4294967296) : bits .or .u32 (a : Int) (c : Int) = ((a ||| c : Nat) : Int) := by
  show IntKind.u32.wrap ((BitVec.ofInt 32 (a : Int) ||| BitVec.ofInt 32 (c : Int)).toNat : Int) = _
  have e1 : BitVec.ofInt 32 (a : Int) = BitVec.ofNat 32 a := by simp
  have e2 : BitVec.ofInt 32 (c : Int) = BitVec.ofNat 32 c := by simp
  rw [e1, e2, BitVec.toNat_or, BitVec.toNat_ofNat, BitVec.toNat_ofNat, Nat.mod_eq_of_lt ha, Nat.mod_eq_of_lt hc]; exact wrap_u32_in (by omega) (by have := Nat.or_lt_two_pow (n := 32) (x := a) (y := c) ha hc; omega)
/-- what others tell, over what is told -/
def At.m1 (x y : At) : At := { x with f := x.f ||| y.f }
def At.m2 (x y : At) : At := if y.f &&& 1 ≠ 0 then { x with s := y.s } else x
def At.m3 (x y : At) : At := if y.f &&& 2 ≠ 0 then { x with u := y.u, g := y.g } else x
def At.m4 (x y : At) : At := if y.f &&& 4 ≠ 0 then { x with m := y.m } else x
def At.m5 (x y : At) : At := if y.f &&& 8 ≠ 0 then { x with a := y.a, t := y.t } else x
def At.merge (x y : At) : At := ((((x.m1 y).m2 y).m3 y).m4 y).m5 y


theorem merge_run (x y : At) (hx : x.Ok) (hy : y.Ok) :
    Tri Try.prog 57 [x.v, y.v] [] (fun v H' => v = (x.merge y).v) := by
  refine tri_of_wp Try.func57 rfl Try.ntmps57 (by simp) ?_; refine wp_seq' (wp_region' (ops_eff' rfl (eff_box rfl) rfl ?_)); rintro _ _ ⟨b2, rfl, rfl⟩; refine ops_eff' rfl (eff_box rfl) rfl ?_; rintro _ _ ⟨b3, rfl, rfl⟩; refine ops_eff' rfl (eff_alloc z40) rfl ?_; rintro _ _ ⟨b4, rfl, rfl⟩; refine ops_nil ?_
  repeat (first | refine InBlock_normal ?_ | refine NoGoto_normal ?_ | refine Jump_normal ?_)
  refine Then_normal (wp_seq' (wp_region' (ops_ro' rfl (ro_fieldAddr fa40_0 rfl) rfl (ops_ro' rfl (ro_load sc37 rfl (Rd.pick 2 rfl (by first | exact Rd.own rfl | exact Rd.row rfl))) rfl (ops_ro' rfl (ro_fieldAddr fa40_0 rfl) rfl ?_))))); refine ops_ro' rfl (ro_load sc37 rfl (Rd.pick 1 rfl (by first | exact Rd.own rfl | exact Rd.row rfl))) rfl (ops_ro' rfl (ro_or rfl rfl (or32 hx.f hy.f)) rfl (ops_ro' rfl (ro_fieldAddr fa40_0 rfl) rfl (ops_eff0 rfl ((eff_store 2 sc37 rfl rfl rfl rfl (Nat.le_of_ble_eq_true rfl) (warm_zero _))) rfl ?_))); rintro _ _ rfl; refine ops_nil ?_
  show Then _ _ .normal _ [own b4 (.cells At.zero.cs.toArray 40 (0, 0)), own b3 (.cells y.cs.toArray 40 (0, 0)), own b2 (.cells (x.m1 y).cs.toArray 40 (0, 0))]
  repeat (first | refine InBlock_normal ?_ | refine NoGoto_normal ?_ | refine Jump_normal ?_)
  refine Then_normal ?_; refine wp_cut (fun Γ H => Has Γ [(2, .pointer (some ⟨b2, 0, none⟩)), (3, .pointer (some ⟨b3, 0, none⟩)), (4, .pointer (some ⟨b4, 0, none⟩))] ∧ H = [own b4 (.cells At.zero.cs.toArray 40 (0, 0)), own b3 (.cells y.cs.toArray 40 (0, 0)), own b2 (.cells ((x.m1 y).m2 y).cs.toArray 40 (0, 0))]) ?_ ?_
  · refine wp_seq' (wp_region' (ops_ro' rfl (ro_fieldAddr fa40_0 rfl) rfl (ops_ro' rfl (ro_load sc37 rfl (Rd.pick 1 rfl (by first | exact Rd.own rfl | exact Rd.row rfl))) rfl (ops_ro' rfl (ro_and rfl rfl (and32 hy.f (c := 1) (by decide) rfl)) rfl (ops_ro' rfl (ro_neq rfl rfl rfl) rfl ?_))))); refine ops_nil ?_
    repeat (first | refine InBlock_normal ?_ | refine NoGoto_normal ?_ | refine Jump_normal ?_)
    refine Then_normal (wp_cond' rfl (fun hc0 => ?_) (fun hc0 => ?_))
    · try replace hc0 := of_decide_eq_true hc0
      refine wp_region' (ops_ro' rfl (ro_fieldAddr fa40_1 rfl) rfl (ops_ro' rfl (ro_load sc34 rfl (Rd.pick 1 rfl (by first | exact Rd.own rfl | exact Rd.row rfl))) rfl (ops_ro' rfl (ro_fieldAddr fa40_1 rfl) rfl (ops_eff0 rfl ((eff_store 2 sc34 rfl rfl rfl rfl (Nat.le_of_ble_eq_true rfl) (warm_zero _))) rfl ?_)))); rintro _ _ rfl; refine ops_nil ?_
      repeat (first | refine InBlock_normal ?_ | refine NoGoto_normal ?_ | refine Jump_normal ?_)
      refine Then_normal ?_; exact ⟨Has.cons rfl (Has.cons rfl (Has.cons rfl (Has.nil _))), by rw [At.m2, if_pos (by omega)]; rfl⟩
    · try replace hc0 := of_decide_eq_false hc0
      refine wp_skip' ?_
      repeat (first | refine InBlock_normal ?_ | refine NoGoto_normal ?_ | refine Jump_normal ?_)
      refine Then_normal ?_; exact ⟨Has.cons rfl (Has.cons rfl (Has.cons rfl (Has.nil _))), by rw [At.m2, if_neg (by omega)]⟩
  rintro Γ H ⟨hΓ, rfl⟩; refine wp_has hΓ ?_; refine wp_cut (fun Γ H => Has Γ [(2, .pointer (some ⟨b2, 0, none⟩)), (3, .pointer (some ⟨b3, 0, none⟩)), (4, .pointer (some ⟨b4, 0, none⟩))] ∧ H = [own b4 (.cells At.zero.cs.toArray 40 (0, 0)), own b3 (.cells y.cs.toArray 40 (0, 0)), own b2 (.cells (((x.m1 y).m2 y).m3 y).cs.toArray 40 (0, 0))]) ?_ ?_
  · refine wp_seq' (wp_region' (ops_ro' rfl (ro_fieldAddr fa40_0 rfl) rfl (ops_ro' rfl (ro_load sc37 rfl (Rd.pick 1 rfl (by first | exact Rd.own rfl | exact Rd.row rfl))) rfl (ops_ro' rfl (ro_and rfl rfl (and32 hy.f (c := 2) (by decide) rfl)) rfl (ops_ro' rfl (ro_neq rfl rfl rfl) rfl ?_))))); refine ops_nil ?_
    repeat (first | refine InBlock_normal ?_ | refine NoGoto_normal ?_ | refine Jump_normal ?_)
    refine Then_normal (wp_cond' rfl (fun hc1 => ?_) (fun hc1 => ?_))
    · try replace hc1 := of_decide_eq_true hc1
      refine wp_draw 6 (by kernel_rfl) (Split.cons 1 rfl (Split.nil _)) ?_; refine any_ro' (i := 0) (by kernel_rfl) rfl rfl (ro_fieldAddr fa40_2 rfl) rfl (fun _ _ _ h => h) ?_; refine any_ro' (i := 1) (by kernel_rfl) rfl rfl (ro_load sc37 rfl (Rd.pick 0 rfl (by first | exact Rd.own rfl | exact Rd.row rfl))) rfl (fun _ _ _ h => h) ?_; refine any_ro' (i := 2) (by kernel_rfl) rfl rfl (ro_fieldAddr fa40_3 rfl) rfl (fun _ _ _ h => h) ?_; refine any_ro' (i := 3) (by kernel_rfl) rfl rfl (ro_load sc37 rfl (Rd.pick 0 rfl (by first | exact Rd.own rfl | exact Rd.row rfl))) rfl (fun _ _ _ h => h) ?_; refine any_ro' (i := 4) (by kernel_rfl) rfl rfl (ro_fieldAddr fa40_2 rfl) rfl (fun _ _ _ h => h) ?_; refine any_eff0 (i := 5) (by kernel_rfl) rfl rfl ((eff_store 1 sc37 rfl rfl rfl rfl (Nat.le_of_ble_eq_true rfl) (warm_zero _))) rfl ?_; rintro _ _ rfl; refine any_unlock (m' := 8) (L' := []) (by kernel_rfl) unlock ?_; refine any_ro' (i := 6) (by kernel_rfl) rfl rfl (ro_fieldAddr fa40_3 rfl) rfl (fun _ _ _ h => h) ?_; refine any_eff0 (i := 7) (by kernel_rfl) rfl rfl ((eff_store 2 sc37 rfl rfl rfl rfl (Nat.le_of_ble_eq_true rfl) (warm_zero _))) rfl ?_; rintro _ _ rfl; refine any_front 1 rfl ?_; refine any_doneH (by kernel_rfl) ?_
      repeat (first | refine InBlock_normal ?_ | refine NoGoto_normal ?_ | refine Jump_normal ?_)
      refine Then_normal ?_; exact ⟨Has.cons rfl (Has.cons rfl (Has.cons rfl (Has.nil _))), by rw [At.m3, if_pos (by omega)]; rfl⟩
    · try replace hc1 := of_decide_eq_false hc1
      refine wp_skip' ?_
      repeat (first | refine InBlock_normal ?_ | refine NoGoto_normal ?_ | refine Jump_normal ?_)
      refine Then_normal ?_; exact ⟨Has.cons rfl (Has.cons rfl (Has.cons rfl (Has.nil _))), by rw [At.m3, if_neg (by omega)]⟩
  rintro Γ H ⟨hΓ, rfl⟩; refine wp_has hΓ ?_; refine wp_cut (fun Γ H => Has Γ [(2, .pointer (some ⟨b2, 0, none⟩)), (3, .pointer (some ⟨b3, 0, none⟩)), (4, .pointer (some ⟨b4, 0, none⟩))] ∧ H = [own b4 (.cells At.zero.cs.toArray 40 (0, 0)), own b3 (.cells y.cs.toArray 40 (0, 0)), own b2 (.cells ((((x.m1 y).m2 y).m3 y).m4 y).cs.toArray 40 (0, 0))]) ?_ ?_
  · refine wp_seq' (wp_region' (ops_ro' rfl (ro_fieldAddr fa40_0 rfl) rfl (ops_ro' rfl (ro_load sc37 rfl (Rd.pick 1 rfl (by first | exact Rd.own rfl | exact Rd.row rfl))) rfl (ops_ro' rfl (ro_and rfl rfl (and32 hy.f (c := 4) (by decide) rfl)) rfl (ops_ro' rfl (ro_neq rfl rfl rfl) rfl ?_))))); refine ops_nil ?_
    repeat (first | refine InBlock_normal ?_ | refine NoGoto_normal ?_ | refine Jump_normal ?_)
    refine Then_normal (wp_cond' rfl (fun hc2 => ?_) (fun hc2 => ?_))
    · try replace hc2 := of_decide_eq_true hc2
      refine wp_region' (ops_ro' rfl (ro_fieldAddr fa40_4 rfl) rfl (ops_ro' rfl (ro_load sc37 rfl (Rd.pick 1 rfl (by first | exact Rd.own rfl | exact Rd.row rfl))) rfl (ops_ro' rfl (ro_fieldAddr fa40_4 rfl) rfl (ops_eff0 rfl ((eff_store 2 sc37 rfl rfl rfl rfl (Nat.le_of_ble_eq_true rfl) (warm_zero _))) rfl ?_)))); rintro _ _ rfl; refine ops_nil ?_
      repeat (first | refine InBlock_normal ?_ | refine NoGoto_normal ?_ | refine Jump_normal ?_)
      refine Then_normal ?_; exact ⟨Has.cons rfl (Has.cons rfl (Has.cons rfl (Has.nil _))), by rw [At.m4, if_pos (by omega)]; rfl⟩
    · try replace hc2 := of_decide_eq_false hc2
      refine wp_skip' ?_
      repeat (first | refine InBlock_normal ?_ | refine NoGoto_normal ?_ | refine Jump_normal ?_)
      refine Then_normal ?_; exact ⟨Has.cons rfl (Has.cons rfl (Has.cons rfl (Has.nil _))), by rw [At.m4, if_neg (by omega)]⟩
  rintro Γ H ⟨hΓ, rfl⟩; refine wp_has hΓ ?_; refine wp_cut (fun Γ H => Has Γ [(2, .pointer (some ⟨b2, 0, none⟩)), (3, .pointer (some ⟨b3, 0, none⟩)), (4, .pointer (some ⟨b4, 0, none⟩))] ∧ H = [own b4 (.cells At.zero.cs.toArray 40 (0, 0)), own b3 (.cells y.cs.toArray 40 (0, 0)), own b2 (.cells (((((x.m1 y).m2 y).m3 y).m4 y).m5 y).cs.toArray 40 (0, 0))]) ?_ ?_
  · refine wp_seq' (wp_region' (ops_ro' rfl (ro_fieldAddr fa40_0 rfl) rfl (ops_ro' rfl (ro_load sc37 rfl (Rd.pick 1 rfl (by first | exact Rd.own rfl | exact Rd.row rfl))) rfl (ops_ro' rfl (ro_and rfl rfl (and32 hy.f (c := 8) (by decide) rfl)) rfl (ops_ro' rfl (ro_neq rfl rfl rfl) rfl ?_))))); refine ops_nil ?_
    repeat (first | refine InBlock_normal ?_ | refine NoGoto_normal ?_ | refine Jump_normal ?_)
    refine Then_normal (wp_cond' rfl (fun hc3 => ?_) (fun hc3 => ?_))
    · try replace hc3 := of_decide_eq_true hc3
      refine wp_draw 6 (by kernel_rfl) (Split.cons 1 rfl (Split.nil _)) ?_; refine any_ro' (i := 0) (by kernel_rfl) rfl rfl (ro_fieldAddr fa40_5 rfl) rfl (fun _ _ _ h => h) ?_; refine any_ro' (i := 1) (by kernel_rfl) rfl rfl (ro_load sc37 rfl (Rd.pick 0 rfl (by first | exact Rd.own rfl | exact Rd.row rfl))) rfl (fun _ _ _ h => h) ?_; refine any_ro' (i := 2) (by kernel_rfl) rfl rfl (ro_fieldAddr fa40_6 rfl) rfl (fun _ _ _ h => h) ?_; refine any_ro' (i := 3) (by kernel_rfl) rfl rfl (ro_load sc37 rfl (Rd.pick 0 rfl (by first | exact Rd.own rfl | exact Rd.row rfl))) rfl (fun _ _ _ h => h) ?_; refine any_ro' (i := 4) (by kernel_rfl) rfl rfl (ro_fieldAddr fa40_5 rfl) rfl (fun _ _ _ h => h) ?_; refine any_eff0 (i := 5) (by kernel_rfl) rfl rfl ((eff_store 1 sc37 rfl rfl rfl rfl (Nat.le_of_ble_eq_true rfl) (warm_zero _))) rfl ?_; rintro _ _ rfl; refine any_unlock (m' := 8) (L' := []) (by kernel_rfl) unlock ?_; refine any_ro' (i := 6) (by kernel_rfl) rfl rfl (ro_fieldAddr fa40_6 rfl) rfl (fun _ _ _ h => h) ?_; refine any_eff0 (i := 7) (by kernel_rfl) rfl rfl ((eff_store 2 sc37 rfl rfl rfl rfl (Nat.le_of_ble_eq_true rfl) (warm_zero _))) rfl ?_; rintro _ _ rfl; refine any_front 1 rfl ?_; refine any_doneH (by kernel_rfl) ?_
      repeat (first | refine InBlock_normal ?_ | refine NoGoto_normal ?_ | refine Jump_normal ?_)
      refine Then_normal ?_; exact ⟨Has.cons rfl (Has.cons rfl (Has.cons rfl (Has.nil _))), by rw [At.m5, if_pos (by omega)]; rfl⟩
    · try replace hc3 := of_decide_eq_false hc3
      refine wp_skip' ?_
      repeat (first | refine InBlock_normal ?_ | refine NoGoto_normal ?_ | refine Jump_normal ?_)
      refine Then_normal ?_; exact ⟨Has.cons rfl (Has.cons rfl (Has.cons rfl (Has.nil _))), by rw [At.m5, if_neg (by omega)]⟩
  rintro Γ H ⟨hΓ, rfl⟩; refine wp_has hΓ ?_; refine wp_seq' (wp_region' (ops_ro' rfl (ro_loadA ag40 rfl (RdN.of_pick 2 rfl rdn_all) rfl) rfl (ops_eff0 rfl ((eff_storeA 0 ag40 rfl rfl rfl rfl rfl (Nat.le_of_ble_eq_true rfl) (warm_zero _))) rfl ?_))); rintro _ _ rfl; refine ops_nil ?_
  repeat (first | refine InBlock_normal ?_ | refine NoGoto_normal ?_ | refine Jump_normal ?_)
  refine Then_normal (wp_ret' ?_)
  repeat (first | refine Then_ret ?_ | refine InBlock_ret ?_ | refine NoGoto_ret ?_ | refine Jump_ret ?_)
  refine done_ret (resv1 rfl (rv_cellA ag40 rfl (RdN.of_pick 0 rfl rdn_all) rfl)) ?_
  rfl
theorem merge_spec (x y : At) (hx : x.Ok) (hy : y.Ok) : Tri Try.prog 57 [x.v, y.v] [] (fun v H' => v = (x.merge y).v ∧ H' = []) := tri_forget (merge_run x y hx hy) fun v H h => h


theorem bare_spec (x : At) (hx : x.Ok) : Tri Try.prog 87 [x.v] [] (fun v H' => v = (At.zero.merge x).v ∧ H' = []) := by
  refine tri_forget (Ψ := fun v _ => v = (At.zero.merge x).v) ?_ fun v H h => h
  refine tri_of_wp Try.func87 rfl Try.ntmps87 (by simp) ?_; refine wp_seq' (wp_region' (ops_eff' rfl (eff_box rfl) rfl ?_)); rintro _ _ ⟨b1, rfl, rfl⟩; refine ops_eff' rfl (eff_alloc z40) rfl ?_; rintro _ _ ⟨b2, rfl, rfl⟩; refine ops_nil ?_
  repeat (first | refine InBlock_normal ?_ | refine NoGoto_normal ?_ | refine Jump_normal ?_)
  refine Then_normal (wp_seq' (wp_region' (ops_ro' rfl (ro_build rfl (show Bld Try.prog 40 [] At.zero.v from bld_struct (cs := At.zero.cs) st40 rfl)) rfl (ops_ro' rfl (ro_loadA ag40 rfl (RdN.of_pick 1 rfl rdn_all) rfl) rfl (ops_eff' rfl (eff_call Try.call57 rfl rfl (Split.nil _) (merge_spec At.zero x At.zero_ok hx)) rfl ?_))))); rintro _ H' ⟨_, ⟨rfl, rfl⟩, hH⟩; simp only [zA, zB, zC, zD, zE, zF] at hH; subst hH; refine ops_eff0 rfl ((eff_storeA 0 ag40 rfl rfl rfl rfl rfl (Nat.le_of_ble_eq_true rfl) (warm_zero _))) rfl ?_; rintro _ _ rfl; refine ops_nil ?_
  repeat (first | refine InBlock_normal ?_ | refine NoGoto_normal ?_ | refine Jump_normal ?_)
  refine Then_normal (wp_ret' ?_)
  repeat (first | refine Then_ret ?_ | refine InBlock_ret ?_ | refine NoGoto_ret ?_ | refine Jump_ret ?_)
  refine done_ret (resv1 rfl (rv_cellA ag40 rfl (RdN.of_pick 0 rfl rdn_all) rfl)) ?_
  rfl
theorem merge_ok {x y : At} (hx : x.Ok) (hy : y.Ok) : (x.merge y).Ok := by
  have h1 : (x.m1 y).Ok := ⟨Nat.or_lt_two_pow (n := 32) hx.f hy.f, hx.s, hx.u, hx.g, hx.m, hx.a, hx.t⟩
  have h2 : ((x.m1 y).m2 y).Ok := by unfold At.m2; split; exact ⟨h1.f, hy.s, h1.u, h1.g, h1.m, h1.a, h1.t⟩; exact h1
  have h3 : (((x.m1 y).m2 y).m3 y).Ok := by unfold At.m3; split; exact ⟨h2.f, h2.s, hy.u, hy.g, h2.m, h2.a, h2.t⟩; exact h2
  have h4 : ((((x.m1 y).m2 y).m3 y).m4 y).Ok := by unfold At.m4; split; exact ⟨h3.f, h3.s, h3.u, h3.g, hy.m, h3.a, h3.t⟩; exact h3
  unfold At.merge At.m5; split; exact ⟨h4.f, h4.s, h4.u, h4.g, h4.m, hy.a, hy.t⟩; exact h4
theorem run_attrFields (d : Nat) (x y : At) (w : World) : (Op.eqFields (d+1) x.cs.toArray y.cs.toArray (Try.prog.fieldsOf 40).toList).run Try.prog w = .ok (decide (x = y)) w := by
  have h : decide (x = y) = (decide (x.f = y.f) && (decide (x.s = y.s) && (decide (x.u = y.u) && (decide (x.g = y.g) && (decide (x.m = y.m) && (decide (x.a = y.a) && decide (x.t = y.t))))))) := by
    cases x; cases y; simp only [At.mk.injEq]; simp only [Bool.decide_and]
  have hl : (Try.prog.fieldsOf 40).toList = [⟨ "Flags", 37, 0, false, "", "", 0⟩, ⟨ "Size", 34, 1, false, "", "", 8⟩, ⟨ "Uid", 37, 2, false, "", "", 16⟩, ⟨ "Gid", 37, 3, false, "", "", 20⟩, ⟨ "Mode", 37, 4, false, "", "", 24⟩, ⟨ "Atime", 37, 5, false, "", "", 28⟩, ⟨ "Mtime", 37, 6, false, "", "", 32⟩] := by kernel_rfl
  have e32 : ∀ (a b : Int) (w : World), (Op.equalIn (d + 1) 37 (.int .u32 a) (.int .u32 b)).run Try.prog w = .ok (a == b) w := fun a b w => run_equalIn_int w d 37 .u32 .u32 a b Try.underlying37
  have e64 : ∀ (a b : Int) (w : World), (Op.equalIn (d + 1) 34 (.int .u64 a) (.int .u64 b)).run Try.prog w = .ok (a == b) w := fun a b w => run_equalIn_int w d 34 .u64 .u64 a b Try.underlying34
  rw [h, hl]; have hb : ∀ a b : Nat, ((a : Int) == (b : Int)) = decide (a = b) := fun a b => by by_cases h : a = b <;> simp [h]; omega
  simp only [Op.eqFields, Sem.run_bind, Sem.run_ite, part, At.cs, Try.isAgg37, Try.isAgg34, Result.andThen_ok, Bool.false_eq_true, if_false, List.getElem?_toArray, List.getElem?_cons_zero, List.getElem?_cons_succ, Sem.run_pure, e32, e64, hb]; simp
  by_cases h1 : x.f = y.f <;> by_cases h2 : x.s = y.s <;> by_cases h3 : x.u = y.u <;> by_cases h4 : x.g = y.g <;> by_cases h5 : x.m = y.m <;> by_cases h6 : x.a = y.a <;> by_cases h7 : x.t = y.t <;> simp [h1, h2, h3, h4, h5, h6, h7]
theorem run_attrEqIn (d : Nat) (x y : At) (w : World) : (Op.equalIn (d + 2) 40 x.v y.v).run Try.prog w = .ok (decide (x = y)) w := by
  rw [run_equalIn_agg w (d + 1) 40 _ _ (by kernel_rfl) (by kernel_rfl)]; exact run_attrFields d x y w
theorem run_attrEq (x y : At) (w : World) : (binOp .eql 40 x.v y.v).run Try.prog w = .ok (.bool (decide (x = y))) w := by
  rw [run_eql_struct]; show ((Op.equalIn (9998 + 2) 40 x.v y.v).run Try.prog w).andThen _ = _
  rw [run_attrEqIn]; rfl
theorem run_attrNe (x y : At) (w : World) : (binOp .neq 40 x.v y.v).run Try.prog w = .ok (.bool (!decide (x = y))) w := by
  rw [run_neq_struct]; show ((Op.equalIn (9998 + 2) 40 x.v y.v).run Try.prog w).andThen _ = _
  rw [run_attrEqIn]; rfl
theorem attrGuard (op : BinOp) (o1 o2 : Operand) (x y : At) (w : World) : (eqGuard op 40 o1 o2 x.v y.v).run Try.prog w = .ok () w := run_eqGuard_agg w op 40 o1 o2 _ _ (by kernel_rfl)
section
variable {n : Nat} {L : HProp} {Γ : Env} {d : Option Tmp} {ty : TypeId} {pos : String} {aft : Array Edge} {g : Option (Nat × Bool)}
theorem ro_attrEq {ty' : TypeId} {o1 o2 : Operand} {x y : At} {c : Bool} (hx : ev Γ o1 = some x.v) (hy : ev Γ o2 = some y.v) (hz : decide (x = y) = c) : RO Try.prog n L Γ ⟨d, .binOp .eql 40 o1 o2 ty', ty, pos, aft, g⟩ (.bool c) := by
  subst hz; exact ro_cmpOf hx hy (fun w => attrGuard _ _ _ x y w) (fun w => run_attrEq x y w)
theorem ro_attrNe {ty' : TypeId} {o1 o2 : Operand} {x y : At} {c : Bool} (hx : ev Γ o1 = some x.v) (hy : ev Γ o2 = some y.v) (hz : (!decide (x = y)) = c) : RO Try.prog n L Γ ⟨d, .binOp .neq 40 o1 o2 ty', ty, pos, aft, g⟩ (.bool c) := by
  subst hz; exact ro_cmpOf hx hy (fun w => attrGuard _ _ _ x y w) (fun w => run_attrNe x y w)
end


def At.right (x : At) : Bool := decide (x.f ≤ 15) && decide (At.zero.merge x = x)
theorem right_spec (x : At) (hx : x.Ok) : Tri Try.prog 56 [x.v] [] (fun v H' => v = .bool x.right ∧ H' = []) := by
  refine tri_forget (Ψ := fun v _ => v = .bool x.right) ?_ fun v H h => h
  by_cases h : x.f ≤ 15
  · skip; refine tri_of_wp Try.func56 rfl Try.ntmps56 (by simp) ?_; refine wp_seq' (wp_region' (ops_eff' rfl (eff_box rfl) rfl ?_)); rintro _ _ ⟨b1, rfl, rfl⟩; refine ops_ro' rfl (ro_assign rfl) rfl (ops_nil ?_)
    repeat (first | refine InBlock_normal ?_ | refine NoGoto_normal ?_ | refine Jump_normal ?_)
    refine Then_normal (wp_seq' (wp_draw 9 (by kernel_rfl) (Split.cons 0 rfl (Split.nil _)) ?_)); refine any_ro' (i := 0) (by kernel_rfl) rfl rfl (ro_fieldAddr fa40_0 rfl) rfl (fun _ _ _ h => h) ?_; refine any_ro' (i := 1) (by kernel_rfl) rfl rfl (ro_load sc37 rfl (Rd.pick 0 rfl (by first | exact Rd.own rfl | exact Rd.row rfl))) rfl (fun _ _ _ h => h) ?_; refine any_ro' (i := 2) (by kernel_rfl) rfl rfl (ro_leq rfl rfl (decide_eq_true (by omega))) rfl (fun _ _ _ h => h) ?_; refine any_ro' (i := 3) (by kernel_rfl) rfl rfl (ro_move rfl) rfl (fun _ _ _ h => h) ?_; refine any_ro' (i := 4) (by kernel_rfl) rfl rfl (ro_loadA ag40 rfl (RdN.of_pick 0 rfl rdn_all) rfl) rfl (fun _ _ _ h => h) ?_; refine any_ro' (i := 6) (by kernel_rfl) rfl rfl (ro_loadA ag40 rfl (RdN.of_pick 0 rfl rdn_all) rfl) rfl (fun _ _ _ h => h) ?_; refine any_eff' (i := 5) (by kernel_rfl) rfl rfl (eff_call Try.call87 rfl rfl (Split.nil _) (bare_spec _ (by assumption))) rfl ?_; rintro _ H' ⟨_, ⟨rfl, rfl⟩, hH⟩; simp only [zA, zB, zC, zD, zE, zF] at hH; subst hH; refine any_ro' (i := 7) (by kernel_rfl) rfl rfl (ro_attrEq rfl rfl rfl) rfl (fun _ _ _ h => h) ?_; refine any_ro' (i := 8) (by kernel_rfl) rfl rfl (ro_pick rfl rfl) rfl (fun _ _ _ h => h) ?_; refine any_unlock (m' := 10) (L' := []) (by kernel_rfl) unlock ?_; refine any_ro' (i := 9) (by kernel_rfl) rfl rfl (ro_assign rfl) rfl (fun _ _ _ h => h) ?_; refine any_doneH (by kernel_rfl) ?_
    repeat (first | refine InBlock_normal ?_ | refine NoGoto_normal ?_ | refine Jump_normal ?_)
    refine Then_normal (wp_ret' ?_)
    repeat (first | refine Then_ret ?_ | refine InBlock_ret ?_ | refine NoGoto_ret ?_ | refine Jump_ret ?_)
    refine done_ret (res1 rfl rfl) ?_; simp only [At.right, decide_eq_true (show x.f ≤ 15 by omega)]; rfl
  · skip; refine tri_of_wp Try.func56 rfl Try.ntmps56 (by simp) ?_; refine wp_seq' (wp_region' (ops_eff' rfl (eff_box rfl) rfl ?_)); rintro _ _ ⟨b1, rfl, rfl⟩; refine ops_ro' rfl (ro_assign rfl) rfl (ops_nil ?_)
    repeat (first | refine InBlock_normal ?_ | refine NoGoto_normal ?_ | refine Jump_normal ?_)
    refine Then_normal (wp_seq' (wp_draw 9 (by kernel_rfl) (Split.cons 0 rfl (Split.nil _)) ?_)); refine any_ro' (i := 0) (by kernel_rfl) rfl rfl (ro_fieldAddr fa40_0 rfl) rfl (fun _ _ _ h => h) ?_; refine any_ro' (i := 1) (by kernel_rfl) rfl rfl (ro_load sc37 rfl (Rd.pick 0 rfl (by first | exact Rd.own rfl | exact Rd.row rfl))) rfl (fun _ _ _ h => h) ?_; refine any_ro' (i := 2) (by kernel_rfl) rfl rfl (ro_leq rfl rfl (decide_eq_false (by omega))) rfl (fun _ _ _ h => h) ?_; refine any_ro' (i := 3) (by kernel_rfl) rfl rfl (ro_move rfl) rfl (fun _ _ _ h => h) ?_; refine any_skip' (i := 4) (by kernel_rfl) rfl rfl rfl (fun _ _ _ h => h) ?_; refine any_skip' (i := 6) (by kernel_rfl) rfl rfl rfl (fun _ _ _ h => h) ?_; refine any_skip' (i := 5) (by kernel_rfl) rfl rfl rfl (fun _ _ _ h => h) ?_; refine any_skip' (i := 7) (by kernel_rfl) rfl rfl rfl (fun _ _ _ h => h) ?_; refine any_ro' (i := 8) (by kernel_rfl) rfl rfl (ro_pick rfl rfl) rfl (fun _ _ _ h => h) ?_; refine any_unlock (m' := 10) (L' := []) (by kernel_rfl) unlock ?_; refine any_ro' (i := 9) (by kernel_rfl) rfl rfl (ro_assign rfl) rfl (fun _ _ _ h => h) ?_; refine any_doneH (by kernel_rfl) ?_
    repeat (first | refine InBlock_normal ?_ | refine NoGoto_normal ?_ | refine Jump_normal ?_)
    refine Then_normal (wp_ret' ?_)
    repeat (first | refine Then_ret ?_ | refine InBlock_ret ?_ | refine NoGoto_ret ?_ | refine Jump_ret ?_)
    refine done_ret (res1 rfl rfl) ?_; simp only [At.right, decide_eq_false (show ¬ x.f ≤ 15 by omega)]; rfl

end Go.Proofs.Ytbbmhppkhcodfaa
