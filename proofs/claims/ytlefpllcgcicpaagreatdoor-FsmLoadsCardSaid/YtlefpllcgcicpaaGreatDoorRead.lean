/-
  What the reader of package wire does.
-/
import Derived.Test.YtlefpllcgcicpaaGreatDoorWire
set_option linter.unusedVariables false
set_option linter.unusedSimpArgs false
namespace Go.Proofs.YtlefpllcgcicpaaGreatDoor
open Go.Sx
set_option maxRecDepth 100000
/-- a reader's state: its bytes, how many were read, the refusal, its place -/
structure R where
 b : List UInt8
 pos : Nat
 why : Int
 place : Int
abbrev rd (pr : Nat) (p : Option Addr) (c : Nat) (r : R) : List HProp :=
 [own pr (.cells [Value.slice p r.b.length c, .int .i64 r.pos, .int .i64 r.why, .int .i64 r.place].toArray 140 (0, 0)), row 5 1 (.slice p r.b.length c) r.b.length (cel r.b)]
def R.new (l : List UInt8) : R := ⟨l, 0, 0, 0⟩
def R.refuse (r : R) (why place : Int) : R := if r.why = 0 then { r with why := why, place := place } else r
/-- n bytes are taken -/
def R.take (r : R) (n : Int) : R × List UInt8 :=
 if r.why ≠ 0 then (r, [])
 else if (r.b.length : Int) - r.pos < n then (r.refuse 10 r.b.length, [])
 else if n ≤ 0 then (r, [])
 else ({ r with pos := r.pos + n.toNat }, (r.b.drop r.pos).take n.toNat)
def val (l : List UInt8) : Nat := l.foldl (fun n c => n * 256 + c.toNat) 0
def R.get (r : R) (size : Nat) : R × Nat := ((r.take size).1, val (r.take size).2)
theorem take_b (r : R) (n : Int) : (r.take n).1.b = r.b := by unfold R.take R.refuse; repeat' split
                                                              all_goals rfl
theorem newReader_spec (V : HProp) (p : Option Addr) (c : Nat) (l : List UInt8) (hV : Vw V (.slice p l.length c) l.length (cel l)) (hl : l.length ≤ 140737488355328) :
 Tri Tryz.prog 50 [.slice p l.length c] [V] (fun v H' => ∃ pr p' c', v = .pointer (some ⟨pr, 0, none⟩) ∧ H' = rd pr p' c' (R.new l) ++ [V]) := by
 refine qd Tryz.func50 rfl Tryz.ntmps50 (by simp) ?_; refine zM (zK (zH rfl (zO rfl) rfl (zN ?_)))
 repeat (first | refine zQ ?_ | refine zV ?_ | refine ze ?_)
 refine zI (zM (zK (zH rfl (zL rfl) rfl (zT rfl (zb Tryz.call93 rfl rfl (zG 0 rfl (zR _)) (clone_spec V p l.length c (cel l) hV (yx _) (cel_one _) (by omega))) rfl ?_)))); rintro _ H' ⟨_, ⟨p', c', rfl, hp, rfl⟩, hH⟩; simp only [zy7] at hH; subst hH; refine zH rfl (qY rfl (qK (cs := [_, _, _, _]) st140 rfl)) rfl (zT rfl (qj rfl) rfl ?_); rintro _ _ ⟨br, rfl, rfl⟩; refine zH rfl (zO rfl) rfl (zN ?_)
 repeat (first | refine zQ ?_ | refine zV ?_ | refine ze ?_)
 refine zI (zi ?_)
 repeat (first | refine zh ?_ | refine zn ?_ | refine qr ?_ | refine yH ?_)
 refine yG (qk rfl rfl) ?_; exact ⟨br, p', c', rfl, rfl⟩
theorem refuse_spec (pr : Nat) (p : Option Addr) (c : Nat) (r : R) (why place : Int) :
 Tri Tryz.prog 95 [.pointer (some ⟨pr, 0, none⟩), .int .i64 why, .int .i64 place] (rd pr p c r) (fun v H' => v = .tuple #[] ∧ H' = rd pr p c (r.refuse why place)) := by
 by_cases h : r.why = 0
 ·skip; refine qd Tryz.func95 rfl Tryz.ntmps95 (by simp) ?_; refine zM (zK (zH rfl (zL rfl) rfl (zH rfl (zU rfl) rfl (zH rfl (zP xK rfl) rfl (zH rfl (zW sc53 rfl (zy4 0 rfl (by first | exact Rd.own rfl | exact Rd.row rfl))) rfl ?_))))); refine zH rfl (qQ rfl rfl (decide_eq_true h)) rfl (zN ?_)
  repeat (first | refine zQ ?_ | refine zV ?_ | refine ze ?_)
  refine zI (qG rfl ?_); refine zK (zH rfl (zL rfl) rfl (zH rfl (zL rfl) rfl (zH rfl (zL rfl) rfl (zH rfl (zL rfl) rfl (zH rfl (zU rfl) rfl ?_))))); refine zH rfl (zP xK rfl) rfl (zo rfl ((qP 0 sc53 rfl rfl rfl rfl (zy1 rfl) (zg _))) rfl ?_); rintro _ _ rfl; refine zH rfl (zU rfl) rfl (zH rfl (zP fa140_3 rfl) rfl (zo rfl ((qP 0 sc3 rfl rfl rfl rfl (zy1 rfl) (zg _))) rfl ?_)); rintro _ _ rfl; refine zN ?_
  repeat (first | refine zQ ?_ | refine zV ?_ | refine ze ?_)
  refine yX (res0 rfl) ?_; exact ⟨rfl, by simp only [R.refuse, if_pos h]; rfl⟩
 ·skip; refine qd Tryz.func95 rfl Tryz.ntmps95 (by simp) ?_; refine zM (zK (zH rfl (zL rfl) rfl (zH rfl (zU rfl) rfl (zH rfl (zP xK rfl) rfl (zH rfl (zW sc53 rfl (zy4 0 rfl (by first | exact Rd.own rfl | exact Rd.row rfl))) rfl ?_))))); refine zH rfl (qQ rfl rfl (decide_eq_false h)) rfl (zN ?_)
  repeat (first | refine zQ ?_ | refine zV ?_ | refine ze ?_)
  refine zI (qC rfl ?_); refine zl ?_
  repeat (first | refine zQ ?_ | refine zV ?_ | refine ze ?_)
  refine yX (res0 rfl) ?_; exact ⟨rfl, by simp only [R.refuse, if_neg h]⟩
/-- what take hands out: a row of its own -/
def Out (v : Value) (l : List UInt8) (A : HProp) : Prop := ∃ p c, v = .slice p l.length c ∧ ((p = none ∧ l = []) ∨ ∃ b, p = some ⟨b, 0, none⟩) ∧ A = row 5 1 (.slice p l.length c) l.length (cel l)
theorem take_refused (pr : Nat) (p : Option Addr) (c : Nat) (r : R) (n : Int) (h : ¬ r.why = 0) :
 Tri Tryz.prog 96 [.pointer (some ⟨pr, 0, none⟩), .int .i64 n] (rd pr p c r) (fun v H' => ∃ p' c', v = .slice p' 0 c' ∧ ((p' = none ∧ ([] : List UInt8) = []) ∨ ∃ b, p' = some ⟨b, 0, none⟩) ∧ H' = row 5 1 (.slice p' 0 c') 0 [] :: rd pr p c r) := by
 refine qd Tryz.func96 rfl Tryz.ntmps96 (by simp) ?_; refine zM (zK (zH rfl (zO rfl) rfl (zN ?_)))
 repeat (first | refine zQ ?_ | refine zV ?_ | refine ze ?_)
 refine zI (zM (zM (qZ 19 (by kernel_rfl) (Split.all _) ?_))); refine zRO (i := 0) (by kernel_rfl) rfl rfl (zL rfl) rfl (zRO (i := 1) (by kernel_rfl) rfl rfl (zU rfl) rfl (zRO (i := 2) (by kernel_rfl) rfl rfl (zP xK rfl) rfl (zRO (i := 3) (by kernel_rfl) rfl rfl (zW sc53 rfl (zy4 0 rfl (by first | exact Rd.own rfl | exact Rd.row rfl))) rfl (zRO (i := 4) (by kernel_rfl) rfl rfl (qQ rfl rfl (decide_eq_false h)) rfl (zRO (i := 5) (by kernel_rfl) rfl rfl (zL rfl) rfl ?_))))); refine zSK (i := 6) (by kernel_rfl) rfl rfl rfl (zSK (i := 7) (by kernel_rfl) rfl rfl rfl (zSK (i := 8) (by kernel_rfl) rfl rfl rfl (zSK (i := 9) (by kernel_rfl) rfl rfl rfl (zSK (i := 10) (by kernel_rfl) rfl rfl rfl (zSK (i := 11) (by kernel_rfl) rfl rfl rfl ?_))))); refine zSK (i := 12) (by kernel_rfl) rfl rfl rfl (zSK (i := 13) (by kernel_rfl) rfl rfl rfl (zSK (i := 14) (by kernel_rfl) rfl rfl rfl (zSK (i := 15) (by kernel_rfl) rfl rfl rfl (zSK (i := 16) (by kernel_rfl) rfl rfl rfl (zSK (i := 17) (by kernel_rfl) rfl rfl rfl ?_))))); refine zRO (i := 18) (by kernel_rfl) rfl rfl (zr rfl rfl) rfl (xW (by kernel_rfl) ?_)
 repeat (first | refine zQ ?_ | refine zV ?_ | refine ze ?_)
 refine zI (qC rfl ?_); refine zl ?_
 repeat (first | refine zQ ?_ | refine zV ?_ | refine ze ?_)
 refine zI (zM (zM (zK (zH rfl (zL rfl) rfl (zH rfl (zU rfl) rfl ?_))))); refine zH rfl (zP xK rfl) rfl (zH rfl (zW sc53 rfl (zy4 0 rfl (by first | exact Rd.own rfl | exact Rd.row rfl))) rfl (zH rfl (q9 rfl rfl (decide_eq_true h)) rfl (zH rfl (zL rfl) rfl (ops_skip rfl rfl ?_)))); refine ops_skip rfl rfl ?_; refine zH rfl (zr rfl rfl) rfl (zN ?_)
 repeat (first | refine zQ ?_ | refine zV ?_ | refine ze ?_)
 refine zI (qG rfl ?_); refine zM (qD (fun w F s => qv 5 1 w F s) ?_); refine zK (zH rfl (zO rfl) rfl (zN ?_))
 repeat (first | refine zQ ?_ | refine zV ?_ | refine ze ?_)
 refine zI (zi ?_)
 repeat (first | refine zh ?_ | refine zn ?_ | refine qr ?_ | refine yH ?_)
 refine yG (qk rfl rfl) ?_; exact ⟨none, 0, rfl, .inl ⟨rfl, rfl⟩, rfl⟩
theorem take_end (pr : Nat) (p : Option Addr) (c : Nat) (r : R) (n : Int) (h : r.why = 0) (hn : (r.b.length : Int) - r.pos < n) (hl : r.b.length ≤ 140737488355328) (hp : r.pos ≤ r.b.length) :
 Tri Tryz.prog 96 [.pointer (some ⟨pr, 0, none⟩), .int .i64 n] (rd pr p c r) (fun v H' => ∃ p' c', v = .slice p' 0 c' ∧ ((p' = none ∧ ([] : List UInt8) = []) ∨ ∃ b, p' = some ⟨b, 0, none⟩) ∧ H' = row 5 1 (.slice p' 0 c') 0 [] :: rd pr p c (r.refuse 10 r.b.length)) := by
 refine qd Tryz.func96 rfl Tryz.ntmps96 (by simp) ?_; refine zM (zK (zH rfl (zO rfl) rfl (zN ?_)))
 repeat (first | refine zQ ?_ | refine zV ?_ | refine ze ?_)
 refine zI (zM (zM (qZ 19 (by kernel_rfl) (Split.all _) ?_))); refine zRO (i := 0) (by kernel_rfl) rfl rfl (zL rfl) rfl (zRO (i := 1) (by kernel_rfl) rfl rfl (zU rfl) rfl (zRO (i := 2) (by kernel_rfl) rfl rfl (zP xK rfl) rfl (zRO (i := 3) (by kernel_rfl) rfl rfl (zW sc53 rfl (zy4 0 rfl (by first | exact Rd.own rfl | exact Rd.row rfl))) rfl (zRO (i := 4) (by kernel_rfl) rfl rfl (qQ rfl rfl (decide_eq_true h)) rfl (zRO (i := 5) (by kernel_rfl) rfl rfl (zL rfl) rfl ?_))))); refine zRO (i := 6) (by kernel_rfl) rfl rfl (zL rfl) rfl (zRO (i := 7) (by kernel_rfl) rfl rfl (zL rfl) rfl (zRO (i := 8) (by kernel_rfl) rfl rfl (zU rfl) rfl (zRO (i := 9) (by kernel_rfl) rfl rfl (zP fa140_0 rfl) rfl (zRO (i := 10) (by kernel_rfl) rfl rfl (zW sc25 rfl (zy4 0 rfl (by first | exact Rd.own rfl | exact Rd.row rfl))) rfl (zRO (i := 11) (by kernel_rfl) rfl rfl (zw Tryz.underlying25 rfl) rfl ?_))))); refine zRO (i := 12) (by kernel_rfl) rfl rfl (zL rfl) rfl (zRO (i := 13) (by kernel_rfl) rfl rfl (zU rfl) rfl (zRO (i := 14) (by kernel_rfl) rfl rfl (zP fa140_1 rfl) rfl (zRO (i := 15) (by kernel_rfl) rfl rfl (zW sc3 rfl (zy4 0 rfl (by first | exact Rd.own rfl | exact Rd.row rfl))) rfl (zRO (i := 16) (by kernel_rfl) rfl rfl (yi rfl rfl (by first | exact qU (by omega) (by omega) | rfl)) rfl (zRO (i := 17) (by kernel_rfl) rfl rfl (yd rfl rfl (decide_eq_true (by omega))) rfl ?_))))); refine zRO (i := 18) (by kernel_rfl) rfl rfl (zr rfl rfl) rfl (xW (by kernel_rfl) ?_)
 repeat (first | refine zQ ?_ | refine zV ?_ | refine ze ?_)
 refine zI (qG rfl ?_); refine zK (zH rfl (zL rfl) rfl (zH rfl (zL rfl) rfl (zH rfl (zU rfl) rfl (zH rfl (zP fa140_0 rfl) rfl (zH rfl (zW sc25 rfl (zy4 0 rfl (by first | exact Rd.own rfl | exact Rd.row rfl))) rfl ?_))))); refine zH rfl (zw Tryz.underlying25 rfl) rfl (zT rfl (zb Tryz.call95 rfl rfl (zG 0 rfl (zG 0 rfl (zR _))) (refuse_spec pr p c r 10 r.b.length)) rfl ?_); rintro _ H' ⟨_, ⟨rfl, rfl⟩, hH⟩; simp only [zy7] at hH; subst hH; refine zN ?_
 repeat (first | refine zQ ?_ | refine zV ?_ | refine ze ?_)
 refine zI (zM (zM (zK (zH rfl (zL rfl) rfl (zH rfl (zU rfl) rfl ?_))))); refine zH rfl (zP xK rfl) rfl ?_; rw [R.refuse, if_pos h]; refine zH rfl (zW sc53 rfl (zy4 0 rfl (by first | exact Rd.own rfl | exact Rd.row rfl))) rfl (zH rfl (q9 rfl rfl rfl) rfl (zH rfl (zL rfl) rfl (ops_skip rfl rfl ?_))); refine ops_skip rfl rfl ?_; refine zH rfl (zr rfl rfl) rfl (zN ?_)
 repeat (first | refine zQ ?_ | refine zV ?_ | refine ze ?_)
 refine zI (qG rfl ?_); refine zM (qD (fun w F s => qv 5 1 w F s) ?_); refine zK (zH rfl (zO rfl) rfl (zN ?_))
 repeat (first | refine zQ ?_ | refine zV ?_ | refine ze ?_)
 refine zI (zi ?_)
 repeat (first | refine zh ?_ | refine zn ?_ | refine qr ?_ | refine yH ?_)
 refine yG (qk rfl rfl) ?_; exact ⟨none, 0, rfl, .inl ⟨rfl, rfl⟩, rfl⟩
theorem take_none (pr : Nat) (p : Option Addr) (c : Nat) (r : R) (n : Int) (h : r.why = 0) (hn : n ≤ (r.b.length : Int) - r.pos) (h0 : n ≤ 0) (hl : r.b.length ≤ 140737488355328) (hp : r.pos ≤ r.b.length) :
 Tri Tryz.prog 96 [.pointer (some ⟨pr, 0, none⟩), .int .i64 n] (rd pr p c r) (fun v H' => ∃ p' c', v = .slice p' 0 c' ∧ ((p' = none ∧ ([] : List UInt8) = []) ∨ ∃ b, p' = some ⟨b, 0, none⟩) ∧ H' = row 5 1 (.slice p' 0 c') 0 [] :: rd pr p c r) := by
 refine qd Tryz.func96 rfl Tryz.ntmps96 (by simp) ?_; refine zM (zK (zH rfl (zO rfl) rfl (zN ?_)))
 repeat (first | refine zQ ?_ | refine zV ?_ | refine ze ?_)
 refine zI (zM (zM (qZ 19 (by kernel_rfl) (Split.all _) ?_))); refine zRO (i := 0) (by kernel_rfl) rfl rfl (zL rfl) rfl (zRO (i := 1) (by kernel_rfl) rfl rfl (zU rfl) rfl (zRO (i := 2) (by kernel_rfl) rfl rfl (zP xK rfl) rfl (zRO (i := 3) (by kernel_rfl) rfl rfl (zW sc53 rfl (zy4 0 rfl (by first | exact Rd.own rfl | exact Rd.row rfl))) rfl (zRO (i := 4) (by kernel_rfl) rfl rfl (qQ rfl rfl (decide_eq_true h)) rfl (zRO (i := 5) (by kernel_rfl) rfl rfl (zL rfl) rfl ?_))))); refine zRO (i := 6) (by kernel_rfl) rfl rfl (zL rfl) rfl (zRO (i := 7) (by kernel_rfl) rfl rfl (zL rfl) rfl (zRO (i := 8) (by kernel_rfl) rfl rfl (zU rfl) rfl (zRO (i := 9) (by kernel_rfl) rfl rfl (zP fa140_0 rfl) rfl (zRO (i := 10) (by kernel_rfl) rfl rfl (zW sc25 rfl (zy4 0 rfl (by first | exact Rd.own rfl | exact Rd.row rfl))) rfl (zRO (i := 11) (by kernel_rfl) rfl rfl (zw Tryz.underlying25 rfl) rfl ?_))))); refine zRO (i := 12) (by kernel_rfl) rfl rfl (zL rfl) rfl (zRO (i := 13) (by kernel_rfl) rfl rfl (zU rfl) rfl (zRO (i := 14) (by kernel_rfl) rfl rfl (zP fa140_1 rfl) rfl (zRO (i := 15) (by kernel_rfl) rfl rfl (zW sc3 rfl (zy4 0 rfl (by first | exact Rd.own rfl | exact Rd.row rfl))) rfl (zRO (i := 16) (by kernel_rfl) rfl rfl (yi rfl rfl (by first | exact qU (by omega) (by omega) | rfl)) rfl (zRO (i := 17) (by kernel_rfl) rfl rfl (yd rfl rfl (decide_eq_false (by omega))) rfl ?_))))); refine zRO (i := 18) (by kernel_rfl) rfl rfl (zr rfl rfl) rfl (xW (by kernel_rfl) ?_)
 repeat (first | refine zQ ?_ | refine zV ?_ | refine ze ?_)
 refine zI (qC rfl ?_); refine zl ?_
 repeat (first | refine zQ ?_ | refine zV ?_ | refine ze ?_)
 refine zI (zM (zM (zK (zH rfl (zL rfl) rfl (zH rfl (zU rfl) rfl ?_))))); refine zH rfl (zP xK rfl) rfl (zH rfl (zW sc53 rfl (zy4 0 rfl (by first | exact Rd.own rfl | exact Rd.row rfl))) rfl (zH rfl (q9 rfl rfl (decide_eq_false (by simpa using h))) rfl (zH rfl (zL rfl) rfl (zH rfl (zL rfl) rfl (zH rfl (ro_leq rfl rfl (decide_eq_true h0)) rfl ?_))))); refine zH rfl (zr rfl rfl) rfl (zN ?_)
 repeat (first | refine zQ ?_ | refine zV ?_ | refine ze ?_)
 refine zI (qG rfl ?_); refine zM (qD (fun w F s => qv 5 1 w F s) ?_); refine zK (zH rfl (zO rfl) rfl (zN ?_))
 repeat (first | refine zQ ?_ | refine zV ?_ | refine ze ?_)
 refine zI (zi ?_)
 repeat (first | refine zh ?_ | refine zn ?_ | refine qr ?_ | refine yH ?_)
 refine yG (qk rfl rfl) ?_; exact ⟨none, 0, rfl, .inl ⟨rfl, rfl⟩, rfl⟩
theorem take_go (pr pb : Nat) (c : Nat) (r : R) (n : Nat) (h : r.why = 0) (hn : (n : Int) ≤ (r.b.length : Int) - r.pos) (h0 : 0 < n) (hl : r.b.length ≤ 140737488355328) (hp : r.pos ≤ r.b.length) (hcap : r.b.length ≤ c) :
 Tri Tryz.prog 96 [.pointer (some ⟨pr, 0, none⟩), .int .i64 n] (rd pr (some ⟨pb, 0, none⟩) c r) (fun v H' => ∃ A, Out v ((r.b.drop r.pos).take n) A ∧ H' = A :: rd pr (some ⟨pb, 0, none⟩) c { r with pos := r.pos + n }) := by
 refine qd Tryz.func96 rfl Tryz.ntmps96 (by simp) ?_; refine zM (zK (zH rfl (zO rfl) rfl (zN ?_)))
 repeat (first | refine zQ ?_ | refine zV ?_ | refine ze ?_)
 refine zI (zM (zM (qZ 19 (by kernel_rfl) (Split.all _) ?_))); refine zRO (i := 0) (by kernel_rfl) rfl rfl (zL rfl) rfl (zRO (i := 1) (by kernel_rfl) rfl rfl (zU rfl) rfl (zRO (i := 2) (by kernel_rfl) rfl rfl (zP xK rfl) rfl (zRO (i := 3) (by kernel_rfl) rfl rfl (zW sc53 rfl (zy4 0 rfl (by first | exact Rd.own rfl | exact Rd.row rfl))) rfl (zRO (i := 4) (by kernel_rfl) rfl rfl (qQ rfl rfl (decide_eq_true h)) rfl (zRO (i := 5) (by kernel_rfl) rfl rfl (zL rfl) rfl ?_))))); refine zRO (i := 6) (by kernel_rfl) rfl rfl (zL rfl) rfl (zRO (i := 7) (by kernel_rfl) rfl rfl (zL rfl) rfl (zRO (i := 8) (by kernel_rfl) rfl rfl (zU rfl) rfl (zRO (i := 9) (by kernel_rfl) rfl rfl (zP fa140_0 rfl) rfl (zRO (i := 10) (by kernel_rfl) rfl rfl (zW sc25 rfl (zy4 0 rfl (by first | exact Rd.own rfl | exact Rd.row rfl))) rfl (zRO (i := 11) (by kernel_rfl) rfl rfl (zw Tryz.underlying25 rfl) rfl ?_))))); refine zRO (i := 12) (by kernel_rfl) rfl rfl (zL rfl) rfl (zRO (i := 13) (by kernel_rfl) rfl rfl (zU rfl) rfl (zRO (i := 14) (by kernel_rfl) rfl rfl (zP fa140_1 rfl) rfl (zRO (i := 15) (by kernel_rfl) rfl rfl (zW sc3 rfl (zy4 0 rfl (by first | exact Rd.own rfl | exact Rd.row rfl))) rfl (zRO (i := 16) (by kernel_rfl) rfl rfl (yi rfl rfl (by first | exact qU (by omega) (by omega) | rfl)) rfl (zRO (i := 17) (by kernel_rfl) rfl rfl (yd rfl rfl (decide_eq_false (by omega))) rfl ?_))))); refine zRO (i := 18) (by kernel_rfl) rfl rfl (zr rfl rfl) rfl (xW (by kernel_rfl) ?_)
 repeat (first | refine zQ ?_ | refine zV ?_ | refine ze ?_)
 refine zI (qC rfl ?_); refine zl ?_
 repeat (first | refine zQ ?_ | refine zV ?_ | refine ze ?_)
 refine zI (zM (zM (zK (zH rfl (zL rfl) rfl (zH rfl (zU rfl) rfl ?_))))); refine zH rfl (zP xK rfl) rfl (zH rfl (zW sc53 rfl (zy4 0 rfl (by first | exact Rd.own rfl | exact Rd.row rfl))) rfl (zH rfl (q9 rfl rfl (decide_eq_false (by simpa using h))) rfl (zH rfl (zL rfl) rfl (zH rfl (zL rfl) rfl (zH rfl (ro_leq rfl rfl (decide_eq_false (by omega))) rfl ?_))))); refine zH rfl (zr rfl rfl) rfl (zN ?_)
 repeat (first | refine zQ ?_ | refine zV ?_ | refine ze ?_)
 refine zI (qC rfl ?_); refine zl ?_
 repeat (first | refine zQ ?_ | refine zV ?_ | refine ze ?_)
 refine zI (zM (zK (zH rfl (zL rfl) rfl (zH rfl (zU rfl) rfl (zH rfl (zP fa140_1 rfl) rfl ?_))))); refine zH rfl (zW sc3 rfl (zy4 0 rfl (by first | exact Rd.own rfl | exact Rd.row rfl))) rfl (zH rfl (zL rfl) rfl (zH rfl (ql rfl rfl (by first | exact qU (by omega) (by omega) | rfl)) rfl (zH rfl (zU rfl) rfl (zH rfl (zP fa140_1 rfl) rfl (zo rfl ((qP 0 sc3 rfl rfl rfl rfl (zy1 rfl) (zg _))) rfl ?_))))); rintro _ _ rfl; refine zN ?_
 repeat (first | refine zQ ?_ | refine zV ?_ | refine ze ?_)
 refine zI (zM (qZ 16 (by kernel_rfl) (zG 0 rfl (zR _)) ?_)); refine zRO (i := 0) (by kernel_rfl) rfl rfl (zL rfl) rfl (zRO (i := 1) (by kernel_rfl) rfl rfl (zU rfl) rfl (zRO (i := 2) (by kernel_rfl) rfl rfl (zP fa140_0 rfl) rfl (zRO (i := 3) (by kernel_rfl) rfl rfl (zW sc25 rfl (zy4 0 rfl (by first | exact Rd.own rfl | exact Rd.row rfl))) rfl (zRO (i := 4) (by kernel_rfl) rfl rfl (zL rfl) rfl (zRO (i := 5) (by kernel_rfl) rfl rfl (zU rfl) rfl ?_))))); refine zRO (i := 6) (by kernel_rfl) rfl rfl (zP fa140_1 rfl) rfl (zRO (i := 7) (by kernel_rfl) rfl rfl (zW sc3 rfl (zy4 0 rfl (by first | exact Rd.own rfl | exact Rd.row rfl))) rfl (zRO (i := 8) (by kernel_rfl) rfl rfl (zL rfl) rfl (zRO (i := 9) (by kernel_rfl) rfl rfl (yi rfl rfl (by first | exact qU (by omega) (by omega) | rfl)) rfl (zRO (i := 10) (by kernel_rfl) rfl rfl (zL rfl) rfl (zRO (i := 11) (by kernel_rfl) rfl rfl (zU rfl) rfl ?_))))); refine zRO (i := 12) (by kernel_rfl) rfl rfl (zP fa140_1 rfl) rfl (zRO (i := 13) (by kernel_rfl) rfl rfl (zW sc3 rfl (zy4 0 rfl (by first | exact Rd.own rfl | exact Rd.row rfl))) rfl (zRO (i := 14) (by kernel_rfl) rfl rfl (yf (l := r.pos) (h := r.pos + n) sl25 rfl (yZ rfl (by omega)) (yZ rfl (by omega)) (by omega) (by omega)) rfl ?_)); refine qM (i := 15) (by kernel_rfl) rfl rfl (zb Tryz.call93 rfl rfl (zG 0 rfl (zR _)) (clone_spec _ _ _ _ (((cel r.b).drop (r.pos * 1)).take ((r.pos + n - r.pos) * 1)) (Vw.resl RdN.row (by omega) (by omega) hcap (by simp [cel])) (by simp [cel]; omega) (fun v hv => cel_one r.b v (List.mem_of_mem_drop (List.mem_of_mem_take hv))) (by omega))) rfl ?_; rintro _ H' ⟨_, ⟨p', c', rfl, hp, rfl⟩, hH⟩; simp only [zy7] at hH; subst hH; refine qR (m' := 17) (L' := []) (by kernel_rfl) qx ?_; refine zRO (i := 16) (by kernel_rfl) rfl rfl (zO rfl) rfl (qT (by kernel_rfl) ?_)
 repeat (first | refine zQ ?_ | refine zV ?_ | refine ze ?_)
 refine zI (wp_front 1 rfl ?_); refine zi ?_
 repeat (first | refine zh ?_ | refine zn ?_ | refine qr ?_ | refine yH ?_)
 refine yG (qk rfl rfl) ?_; have hk : (List.take n (List.drop r.pos r.b)).length = n := by simp; omega
 have he : r.pos + n - r.pos = n := by omega
 rcases hp with ⟨h1, _⟩ | ⟨_, b, rfl⟩
 ·cases h1
 refine ⟨_, ⟨some ⟨b, 0, none⟩, c', ?_, .inr ⟨b, rfl⟩, rfl⟩, ?_⟩
 ·rw [hk, he]
 ·rw [hk, he]; simp [cel, rd]
theorem out_nil {v : Value} {A : HProp} {p : Option Addr} {c : Nat} (h1 : v = .slice p 0 c) (h2 : (p = none ∧ ([] : List UInt8) = []) ∨ ∃ b, p = some ⟨b, 0, none⟩) (h3 : A = row 5 1 (.slice p 0 c) 0 []) : Out v [] A := ⟨p, c, h1, h2, h3⟩
theorem take_spec (pr : Nat) (p : Option Addr) (c : Nat) (r : R) (n : Int) (hl : r.b.length ≤ 140737488355328) (hp : r.pos ≤ r.b.length) :
 Tri Tryz.prog 96 [.pointer (some ⟨pr, 0, none⟩), .int .i64 n] (rd pr p c r) (fun v H' => ∃ A, Out v (r.take n).2 A ∧ H' = A :: rd pr p c (r.take n).1) := by
 by_cases h : r.why = 0
 ·by_cases hn : (r.b.length : Int) - r.pos < n
  ·refine tri_post (take_end pr p c r n h hn hl hp) ?_; rintro v H ⟨p', c', h1, h2, rfl⟩; have e : r.take n = (r.refuse 10 r.b.length, []) := by simp [R.take, h, hn]
   rw [e]; exact ⟨_, out_nil h1 h2 rfl, rfl⟩
  ·by_cases h0 : n ≤ 0
   ·refine tri_post (take_none pr p c r n h (by omega) h0 hl hp) ?_; rintro v H ⟨p', c', h1, h2, rfl⟩; have e : r.take n = (r, []) := by simp [R.take, h, hn, h0]
    rw [e]; exact ⟨_, out_nil h1 h2 rfl, rfl⟩
   ·refine tri_know (p := ∃ b, p = some ⟨b, 0, none⟩ ∧ r.b.length ≤ c) (fun w F s => ?_) ?_
    ·rcases (row_shape 1 rfl s).2 with ⟨h1, h2, _⟩ | ⟨b, cap, h1, h2, _⟩
     ·omega
     ·injection h1 with h1 _ h3; subst h3; exact ⟨b, h1, h2⟩
    ·rintro ⟨b, rfl, hc⟩; obtain ⟨k, rfl⟩ : ∃ k : Nat, n = k := ⟨n.toNat, by omega⟩
     refine tri_post (take_go pr b c r k h (by omega) (by omega) hl hp hc) ?_; rintro v H ⟨A, hA, rfl⟩
     have e : r.take (k : Int) = ({ r with pos := r.pos + k }, (r.b.drop r.pos).take k) := by simp only [R.take, h]; simp [hn, h0]; omega
     rw [e]; exact ⟨A, hA, rfl⟩
 ·refine tri_post (take_refused pr p c r n h) ?_; rintro v H ⟨p', c', h1, h2, rfl⟩; have e : r.take n = (r, []) := by simp [R.take, h]
  rw [e]; exact ⟨_, out_nil h1 h2 rfl, rfl⟩
theorem take_pos (r : R) (n : Int) (h : r.pos ≤ r.b.length) : (r.take n).1.pos ≤ (r.take n).1.b.length := by
 rw [take_b]; unfold R.take R.refuse; repeat' split
 all_goals simp only
 all_goals omega
theorem take_len (r : R) (n : Int) : (r.take n).2.length ≤ n.toNat := by
 unfold R.take; repeat' split
 all_goals simp
 all_goals omega
theorem shl8 {v : Nat} (h : v < 72057594037927936) : IntKind.u64.wrap ((v : Int) * 2 ^ (min (8 : Int).toNat 64)) = ((v * 256 : Nat) : Int) := by
 rw [wrap_u64_mod]; have : (2 : Int) ^ (min (8 : Int).toNat 64) = 256 := by decide
 rw [this]; omega
theorem bits_nat_or {a b : Nat} (ha : a < 18446744073709551616) (hb : b < 18446744073709551616) : bits .or .u64 (a : Int) (b : Int) = ((a ||| b : Nat) : Int) := by
 show IntKind.u64.wrap ((BitVec.ofInt 64 (a : Int) ||| BitVec.ofInt 64 (b : Int)).toNat : Int) = _
 have e1 : BitVec.ofInt 64 (a : Int) = BitVec.ofNat 64 a := by simp
 have e2 : BitVec.ofInt 64 (b : Int) = BitVec.ofNat 64 b := by simp
 rw [e1, e2, BitVec.toNat_or, BitVec.toNat_ofNat, BitVec.toNat_ofNat, Nat.mod_eq_of_lt ha, Nat.mod_eq_of_lt hb]; exact yI (by omega) (by have := Nat.or_lt_two_pow (n := 64) (x := a) (y := b) ha hb; omega)
theorem or8 {v c : Nat} (h : v < 72057594037927936) (hc : c < 256) : bits .or .u64 ((v * 256 : Nat) : Int) (c : Int) = ((v * 256 + c : Nat) : Int) := by
 rw [bits_nat_or (by omega) (by omega)]; have h1 := Nat.shiftLeft_add_eq_or_of_lt (i := 8) (b := c) hc v
 rw [Nat.shiftLeft_eq] at h1; rw [← h1]
theorem val_snoc (l : List UInt8) (c : UInt8) : val (l ++ [c]) = val l * 256 + c.toNat := by simp [val, List.foldl_append]
theorem val_lt : ∀ (l : List UInt8), val l < 256 ^ l.length := by
 intro l
 induction hl : l.length generalizing l with
 | zero => rw [List.eq_nil_of_length_eq_zero hl]; simp [val]
 | succ n ih =>
  obtain ⟨l', c, rfl⟩ : ∃ l' c, l = l' ++ [c] := ⟨l.dropLast, l.getLast (by intro h; simp [h] at hl), (List.dropLast_concat_getLast _).symm⟩
  have := ih l' (by simpa using hl)
  have hc := UInt8.toNat_lt c
  rw [val_snoc, Nat.pow_succ]; omega
theorem get_spec (pr : Nat) (p : Option Addr) (c : Nat) (r : R) (size : Nat) (h8 : size ≤ 8) (hl : r.b.length ≤ 140737488355328) (hp : r.pos ≤ r.b.length) :
 Tri Tryz.prog 94 [.pointer (some ⟨pr, 0, none⟩), .int .i64 size] (rd pr p c r) (fun v H' => v = .int .u64 (r.get size).2 ∧ H' = rd pr p c (r.get size).1) := by
 refine qd Tryz.func94 rfl Tryz.ntmps94 (by simp) ?_; refine zM (zK (zH rfl (zO rfl) rfl (zN ?_)))
 repeat (first | refine zQ ?_ | refine zV ?_ | refine ze ?_)
 refine zI (zM (zK (zH rfl (zO rfl) rfl (zN ?_))))
 repeat (first | refine zQ ?_ | refine zV ?_ | refine ze ?_)
 refine zI (zM (zM (zK (zH rfl (zL rfl) rfl (zH rfl (zL rfl) rfl ?_))))); refine zT rfl (zb Tryz.call96 rfl rfl (zG 0 rfl (zG 0 rfl (zR _))) (take_spec pr p c r size hl hp)) rfl ?_; rintro _ H' ⟨_, ⟨A, ⟨p', c', rfl, hs, rfl⟩, rfl⟩, hH⟩; simp only [zy7] at hH; subst hH; have ho := take_len r size
 rw [R.get]; generalize (r.take (size : Int)).2 = out at *
 generalize (r.take (size : Int)).1 = r1 at *
 refine zH rfl (zw Tryz.underlying25 rfl) rfl (zH rfl (zL rfl) rfl (zN ?_))
 repeat (first | refine zQ ?_ | refine zV ?_ | refine ze ?_)
 refine zI (qA ?_); refine wp_loop' (fun m Γ H => ∃ k, k + m = out.length ∧ Has Γ [(5, .int .u64 (val (out.take k) : Nat)), (10, .slice p' out.length c'), (11, .int .i64 out.length), (12, .int .i64 k)] ∧ H = row 5 1 (.slice p' out.length c') out.length (cel out) :: rd pr p c r1) (m := out.length) ⟨0, by omega, zS rfl (zS rfl (zS rfl (zS rfl (zf _)))), rfl⟩ ?_; rintro m Γ H ⟨k, hk, hΓ, rfl⟩; refine wp_has hΓ ?_; refine zM (zK (zH rfl (yP rfl rfl rfl) rfl (zN ?_)))
 repeat (first | refine zQ ?_ | refine zV ?_ | refine ze ?_)
 refine zI (zM (zq rfl (fun hc0 => ?_) (fun hc0 => ?_)))
 ·try replace hc0 := zy2 hc0
  obtain ⟨b, rfl⟩ : ∃ b, p' = some ⟨b, 0, none⟩ := by
   rcases hs with ⟨_, rfl⟩ | h
   ·simp at hc0; omega
   ·exact h
  have hk1 : k < out.length := by omega
  have hv := val_lt (out.take k)
  have hv2 : val (out.take k) < 72057594037927936 := by
   refine Nat.lt_of_lt_of_le hv (Nat.le_trans (Nat.pow_le_pow_right (by omega) (show (out.take k).length ≤ 7 by simp; omega)) (by decide))
  have hb := UInt8.toNat_lt out[k]
  refine zl ?_
  repeat (first | refine zQ ?_ | refine zV ?_ | refine ze ?_)
  refine zI (zM (qA ?_)); refine zM (zK (zH rfl (qO sl25 rfl rfl rfl (by omega)) rfl (zH rfl (zW sc5 rfl (zy4 0 rfl (Rd.row (by simpa using cel_get hk1)))) rfl (zH rfl (zO rfl) rfl (zN ?_)))))
  repeat (first | refine zQ ?_ | refine zV ?_ | refine ze ?_)
  refine zI (zK (zH rfl (zL rfl) rfl (zH rfl (ro_shl rfl rfl (by omega) (shl8 hv2)) rfl (zH rfl (zL rfl) rfl (zH rfl (yF Tryz.underlying5 Tryz.underlying28 rfl (yI (by omega) (by omega))) rfl ?_))))); refine zH rfl (ro_or rfl rfl (or8 hv2 hb)) rfl (zH rfl (zO rfl) rfl (zN ?_))
  repeat (first | refine zQ ?_ | refine zV ?_ | refine ze ?_)
  refine zI (zK ?_); refine zH rfl (ql rfl rfl (show IntKind.i64.wrap ((k : Int) + 1) = ((k + 1 : Nat) : Int) from by rw [qU (by omega) (by omega)]; omega)) rfl (zH rfl (zL rfl) rfl (zN ?_))
  repeat (first | refine zQ ?_ | refine zV ?_ | refine ze ?_)
  refine zI ?_; refine ⟨m - 1, by omega, k + 1, by omega, zS ?_ (zS rfl (zS rfl (zS rfl (zf _)))), rfl⟩; rw [List.take_succ_eq_append_getElem hk1, val_snoc]; rfl
 ·try replace hc0 := zy3 hc0
  refine yJ ?_
  repeat (first | refine qV ?_ | refine NoGoto_exit ?_ | refine Jump_exit ?_ | refine qe ?_ | refine InBlock_far rfl ?_)
  repeat (first | refine zQ ?_ | refine zV ?_ | refine ze ?_)
  refine zI (zM (zK (zH rfl (zL rfl) rfl (zH rfl (zO rfl) rfl (zN ?_)))))
  repeat (first | refine zQ ?_ | refine zV ?_ | refine ze ?_)
  refine zI (wp_drop 0 ?_); refine zi ?_
  repeat (first | refine zh ?_ | refine zn ?_ | refine qr ?_ | refine yH ?_)
  refine yG (qk rfl rfl) ?_; refine ⟨?_, rfl⟩; rw [List.take_of_length_le (by omega)]
theorem yt (r : R) (size : Nat) : (r.get size).2 < 256 ^ size := by
 have h1 := take_len r size
 have h2 := val_lt (r.take (size : Int)).2
 refine Nat.lt_of_lt_of_le h2 (Nat.pow_le_pow_right (by omega) (by omega))
theorem get_b (r : R) (size : Nat) : (r.get size).1.b = r.b := take_b r size
theorem get_pos (r : R) (size : Nat) (h : r.pos ≤ r.b.length) : (r.get size).1.pos ≤ r.b.length := by have := take_pos r size h; rwa [take_b] at this
theorem yk (pr : Nat) (p : Option Addr) (c : Nat) (r : R) (hl : r.b.length ≤ 140737488355328) (hp : r.pos ≤ r.b.length) :
 Tri Tryz.prog 101 [.pointer (some ⟨pr, 0, none⟩)] (rd pr p c r) (fun v H' => v = .int .u32 (r.get 4).2 ∧ H' = rd pr p c (r.get 4).1) := by
 refine qd Tryz.func101 rfl Tryz.ntmps101 (by simp) ?_; refine zM (zK (zH rfl (zO rfl) rfl (zN ?_)))
 repeat (first | refine zQ ?_ | refine zV ?_ | refine ze ?_)
 refine zI (zM (zK (zH rfl (zL rfl) rfl (zT rfl (zb Tryz.call94 rfl rfl (zG 0 rfl (zG 0 rfl (zR _))) (get_spec pr p c r 4 (by omega) hl hp)) rfl ?_)))); rintro _ H' ⟨_, ⟨rfl, rfl⟩, hH⟩; simp only [zy7] at hH; subst hH; refine zH rfl (yF Tryz.underlying28 Tryz.underlying27 rfl (xC (by omega) (by have := yt r 4; simp at this; omega))) rfl (zH rfl (zO rfl) rfl (zN ?_))
 repeat (first | refine zQ ?_ | refine zV ?_ | refine ze ?_)
 refine zI (zi ?_)
 repeat (first | refine zh ?_ | refine zn ?_ | refine qr ?_ | refine yH ?_)
 refine yG (qk rfl rfl) ?_; exact ⟨rfl, rfl⟩
theorem rU64_spec (pr : Nat) (p : Option Addr) (c : Nat) (r : R) (hl : r.b.length ≤ 140737488355328) (hp : r.pos ≤ r.b.length) :
 Tri Tryz.prog 86 [.pointer (some ⟨pr, 0, none⟩)] (rd pr p c r) (fun v H' => v = .int .u64 (r.get 8).2 ∧ H' = rd pr p c (r.get 8).1) := by
 refine qd Tryz.func86 rfl Tryz.ntmps86 (by simp) ?_; refine zM (zK (zH rfl (zO rfl) rfl (zN ?_)))
 repeat (first | refine zQ ?_ | refine zV ?_ | refine ze ?_)
 refine zI (zM (zK (zH rfl (zL rfl) rfl (zT rfl (zb Tryz.call94 rfl rfl (zG 0 rfl (zG 0 rfl (zR _))) (get_spec pr p c r 8 (by omega) hl hp)) rfl ?_)))); rintro _ H' ⟨_, ⟨rfl, rfl⟩, hH⟩; simp only [zy7] at hH; subst hH; refine zH rfl (zO rfl) rfl (zN ?_)
 repeat (first | refine zQ ?_ | refine zV ?_ | refine ze ?_)
 refine zI (zi ?_)
 repeat (first | refine zh ?_ | refine zn ?_ | refine qr ?_ | refine yH ?_)
 refine yG (qk rfl rfl) ?_; exact ⟨rfl, rfl⟩
def R.fail (r : R) (why : Int) : R := if why = 0 then r else r.refuse why r.pos
theorem fail_spec (pr : Nat) (p : Option Addr) (c : Nat) (r : R) (why : Int) :
 Tri Tryz.prog 142 [.pointer (some ⟨pr, 0, none⟩), .int .i64 why] (rd pr p c r) (fun v H' => v = .tuple #[] ∧ H' = rd pr p c (r.fail why)) := by
 by_cases h : why = 0
 ·skip; refine qd Tryz.func142 rfl Tryz.ntmps142 (by simp) ?_; refine zM (zK (zH rfl (zL rfl) rfl (zH rfl (q9 rfl rfl (decide_eq_false (by simpa using h))) rfl (zN ?_))))
  repeat (first | refine zQ ?_ | refine zV ?_ | refine ze ?_)
  refine zI (qC rfl ?_); refine zl ?_
  repeat (first | refine zQ ?_ | refine zV ?_ | refine ze ?_)
  refine yX (res0 rfl) ?_; exact ⟨rfl, by simp only [R.fail, if_pos h]⟩
 ·skip; refine qd Tryz.func142 rfl Tryz.ntmps142 (by simp) ?_; refine zM (zK (zH rfl (zL rfl) rfl (zH rfl (q9 rfl rfl (decide_eq_true h)) rfl (zN ?_))))
  repeat (first | refine zQ ?_ | refine zV ?_ | refine ze ?_)
  refine zI (qG rfl ?_); refine zK (zH rfl (zL rfl) rfl (zH rfl (zL rfl) rfl (zH rfl (zL rfl) rfl (zH rfl (zU rfl) rfl (zH rfl (zP fa140_1 rfl) rfl ?_))))); refine zH rfl (zW sc3 rfl (zy4 0 rfl (by first | exact Rd.own rfl | exact Rd.row rfl))) rfl (zT rfl (zb Tryz.call95 rfl rfl (zG 0 rfl (zG 0 rfl (zR _))) (refuse_spec _ _ _ _ _ _)) rfl ?_); rintro _ H' ⟨_, ⟨rfl, rfl⟩, hH⟩; simp only [zy7] at hH; subst hH; refine zN ?_
  repeat (first | refine zQ ?_ | refine zV ?_ | refine ze ?_)
  refine yX (res0 rfl) ?_; exact ⟨rfl, by simp only [R.fail, if_neg h]⟩
theorem fine_spec (pr : Nat) (p : Option Addr) (c : Nat) (r : R) :
 Tri Tryz.prog 98 [.pointer (some ⟨pr, 0, none⟩)] (rd pr p c r) (fun v H' => v = .bool (decide (r.why = 0)) ∧ H' = rd pr p c r) := by
 refine qd Tryz.func98 rfl Tryz.ntmps98 (by simp) ?_; refine zM (zK (zH rfl (zO rfl) rfl (zN ?_)))
 repeat (first | refine zQ ?_ | refine zV ?_ | refine ze ?_)
 refine zI (zM (zK (zH rfl (zL rfl) rfl (zH rfl (zU rfl) rfl (zH rfl (zP xK rfl) rfl ?_))))); refine zH rfl (zW sc53 rfl (zy4 0 rfl (by first | exact Rd.own rfl | exact Rd.row rfl))) rfl (zH rfl (qQ rfl rfl rfl) rfl (zH rfl (zO rfl) rfl (zN ?_)))
 repeat (first | refine zQ ?_ | refine zV ?_ | refine ze ?_)
 refine zI (zi ?_)
 repeat (first | refine zh ?_ | refine zn ?_ | refine qr ?_ | refine yH ?_)
 refine yG (qk rfl rfl) ?_; exact ⟨rfl, rfl⟩
def R.left (r : R) : Int := if r.why = 0 then r.b.length - r.pos else 0
/-- the refusal, and its place -/
def R.fin (r : R) : Int × Int := if r.why = 0 then (if r.pos < r.b.length then (11, r.pos) else (0, 0)) else (r.why, r.place)
theorem end_spec (pr : Nat) (p : Option Addr) (c : Nat) (r : R) (hl : r.b.length ≤ 140737488355328) (hp : r.pos ≤ r.b.length) :
 Tri Tryz.prog 103 [.pointer (some ⟨pr, 0, none⟩)] (rd pr p c r) (fun v H' => v = .tuple #[.int .i64 r.fin.1, .int .i64 r.fin.2] ∧ H' = rd pr p c r) := by
 by_cases h : r.why = 0
 ·by_cases h2 : r.pos < r.b.length
  ·skip; refine qd Tryz.func103 rfl Tryz.ntmps103 (by simp) ?_; refine zM (zK (zH rfl (zO rfl) rfl (zH rfl (zO rfl) rfl (zN ?_))))
   repeat (first | refine zQ ?_ | refine zV ?_ | refine ze ?_)
   refine zI (zM (qA ?_)); refine zM (zK (zH rfl (zL rfl) rfl (zH rfl (zU rfl) rfl (zH rfl (zP xK rfl) rfl (zH rfl (zW sc53 rfl (zy4 0 rfl (by first | exact Rd.own rfl | exact Rd.row rfl))) rfl ?_))))); refine zH rfl (q9 rfl rfl (decide_eq_false (by simpa using h))) rfl (zH rfl (zO rfl) rfl (zN ?_))
   repeat (first | refine zQ ?_ | refine zV ?_ | refine ze ?_)
   refine zI (qC rfl ?_); refine zM (qZ 11 (by kernel_rfl) (Split.all _) ?_); refine zRO (i := 0) (by kernel_rfl) rfl rfl (zL rfl) rfl (zRO (i := 1) (by kernel_rfl) rfl rfl (zU rfl) rfl (zRO (i := 2) (by kernel_rfl) rfl rfl (zP fa140_1 rfl) rfl (zRO (i := 3) (by kernel_rfl) rfl rfl (zW sc3 rfl (zy4 0 rfl (by first | exact Rd.own rfl | exact Rd.row rfl))) rfl (zRO (i := 4) (by kernel_rfl) rfl rfl (zL rfl) rfl (zRO (i := 5) (by kernel_rfl) rfl rfl (zU rfl) rfl ?_))))); refine zRO (i := 6) (by kernel_rfl) rfl rfl (zP fa140_0 rfl) rfl (zRO (i := 7) (by kernel_rfl) rfl rfl (zW sc25 rfl (zy4 0 rfl (by first | exact Rd.own rfl | exact Rd.row rfl))) rfl (zRO (i := 8) (by kernel_rfl) rfl rfl (zw Tryz.underlying25 rfl) rfl (zRO (i := 9) (by kernel_rfl) rfl rfl (yP rfl rfl (decide_eq_true (by omega))) rfl (zRO (i := 10) (by kernel_rfl) rfl rfl (zO rfl) rfl (xW (by kernel_rfl) ?_)))))
   repeat (first | refine zQ ?_ | refine zV ?_ | refine ze ?_)
   refine zI (qG rfl ?_); refine zM (qZ 5 (by kernel_rfl) (Split.all _) ?_); refine zRO (i := 0) (by kernel_rfl) rfl rfl (zL rfl) rfl (zRO (i := 1) (by kernel_rfl) rfl rfl (zU rfl) rfl (zRO (i := 2) (by kernel_rfl) rfl rfl (zP fa140_1 rfl) rfl (zRO (i := 3) (by kernel_rfl) rfl rfl (zW sc3 rfl (zy4 0 rfl (by first | exact Rd.own rfl | exact Rd.row rfl))) rfl (zRO (i := 4) (by kernel_rfl) rfl rfl (zO rfl) rfl (qR (m' := 6) (L' := []) (by kernel_rfl) qx ?_))))); refine zRO (i := 5) (by kernel_rfl) rfl rfl (zO rfl) rfl (qT (by kernel_rfl) ?_)
   repeat (first | refine zQ ?_ | refine zV ?_ | refine ze ?_)
   refine zI (zi ?_)
   repeat (first | refine zh ?_ | refine zn ?_ | refine qr ?_ | refine yH ?_)
   refine yG (res2 rfl rfl rfl) ?_; exact ⟨by simp only [R.fin, if_pos h, if_pos h2], rfl⟩
  ·skip; refine qd Tryz.func103 rfl Tryz.ntmps103 (by simp) ?_; refine zM (zK (zH rfl (zO rfl) rfl (zH rfl (zO rfl) rfl (zN ?_))))
   repeat (first | refine zQ ?_ | refine zV ?_ | refine ze ?_)
   refine zI (zM (qA ?_)); refine zM (zK (zH rfl (zL rfl) rfl (zH rfl (zU rfl) rfl (zH rfl (zP xK rfl) rfl (zH rfl (zW sc53 rfl (zy4 0 rfl (by first | exact Rd.own rfl | exact Rd.row rfl))) rfl ?_))))); refine zH rfl (q9 rfl rfl (decide_eq_false (by simpa using h))) rfl (zH rfl (zO rfl) rfl (zN ?_))
   repeat (first | refine zQ ?_ | refine zV ?_ | refine ze ?_)
   refine zI (qC rfl ?_); refine zM (qZ 11 (by kernel_rfl) (Split.all _) ?_); refine zRO (i := 0) (by kernel_rfl) rfl rfl (zL rfl) rfl (zRO (i := 1) (by kernel_rfl) rfl rfl (zU rfl) rfl (zRO (i := 2) (by kernel_rfl) rfl rfl (zP fa140_1 rfl) rfl (zRO (i := 3) (by kernel_rfl) rfl rfl (zW sc3 rfl (zy4 0 rfl (by first | exact Rd.own rfl | exact Rd.row rfl))) rfl (zRO (i := 4) (by kernel_rfl) rfl rfl (zL rfl) rfl (zRO (i := 5) (by kernel_rfl) rfl rfl (zU rfl) rfl ?_))))); refine zRO (i := 6) (by kernel_rfl) rfl rfl (zP fa140_0 rfl) rfl (zRO (i := 7) (by kernel_rfl) rfl rfl (zW sc25 rfl (zy4 0 rfl (by first | exact Rd.own rfl | exact Rd.row rfl))) rfl (zRO (i := 8) (by kernel_rfl) rfl rfl (zw Tryz.underlying25 rfl) rfl (zRO (i := 9) (by kernel_rfl) rfl rfl (yP rfl rfl (decide_eq_false (by omega))) rfl (zRO (i := 10) (by kernel_rfl) rfl rfl (zO rfl) rfl (xW (by kernel_rfl) ?_)))))
   repeat (first | refine zQ ?_ | refine zV ?_ | refine ze ?_)
   refine zI (qC rfl ?_); refine zl ?_
   repeat (first | refine zQ ?_ | refine zV ?_ | refine ze ?_)
   refine zI (zM (zK (zH rfl (zO rfl) rfl (zH rfl (zO rfl) rfl (zN ?_)))))
   repeat (first | refine zQ ?_ | refine zV ?_ | refine ze ?_)
   refine zI (zi ?_)
   repeat (first | refine zh ?_ | refine zn ?_ | refine qr ?_ | refine yH ?_)
   refine yG (res2 rfl rfl rfl) ?_; exact ⟨by simp only [R.fin, if_pos h, if_neg h2], rfl⟩
 ·skip; refine qd Tryz.func103 rfl Tryz.ntmps103 (by simp) ?_; refine zM (zK (zH rfl (zO rfl) rfl (zH rfl (zO rfl) rfl (zN ?_))))
  repeat (first | refine zQ ?_ | refine zV ?_ | refine ze ?_)
  refine zI (zM (qA ?_)); refine zM (zK (zH rfl (zL rfl) rfl (zH rfl (zU rfl) rfl (zH rfl (zP xK rfl) rfl (zH rfl (zW sc53 rfl (zy4 0 rfl (by first | exact Rd.own rfl | exact Rd.row rfl))) rfl ?_))))); refine zH rfl (q9 rfl rfl (decide_eq_true h)) rfl (zH rfl (zO rfl) rfl (zN ?_))
  repeat (first | refine zQ ?_ | refine zV ?_ | refine ze ?_)
  refine zI (qG rfl ?_); refine zM (qZ 9 (by kernel_rfl) (Split.all _) ?_); refine zRO (i := 0) (by kernel_rfl) rfl rfl (zL rfl) rfl (zRO (i := 1) (by kernel_rfl) rfl rfl (zU rfl) rfl (zRO (i := 2) (by kernel_rfl) rfl rfl (zP xK rfl) rfl (zRO (i := 3) (by kernel_rfl) rfl rfl (zW sc53 rfl (zy4 0 rfl (by first | exact Rd.own rfl | exact Rd.row rfl))) rfl (zRO (i := 4) (by kernel_rfl) rfl rfl (zL rfl) rfl (zRO (i := 5) (by kernel_rfl) rfl rfl (zU rfl) rfl ?_))))); refine zRO (i := 6) (by kernel_rfl) rfl rfl (zP fa140_3 rfl) rfl (zRO (i := 7) (by kernel_rfl) rfl rfl (zW sc3 rfl (zy4 0 rfl (by first | exact Rd.own rfl | exact Rd.row rfl))) rfl (zRO (i := 8) (by kernel_rfl) rfl rfl (zO rfl) rfl (qR (m' := 10) (L' := []) (by kernel_rfl) qx ?_))); refine zRO (i := 9) (by kernel_rfl) rfl rfl (zO rfl) rfl (qT (by kernel_rfl) ?_)
  repeat (first | refine zQ ?_ | refine zV ?_ | refine ze ?_)
  refine zI (zi ?_)
  repeat (first | refine zh ?_ | refine zn ?_ | refine qr ?_ | refine yH ?_)
  refine yG (res2 rfl rfl rfl) ?_; exact ⟨by simp only [R.fin, if_neg h], rfl⟩
theorem all_spec (pr : Nat) (p : Option Addr) (c : Nat) (r : R) (hl : r.b.length ≤ 140737488355328) (hp : r.pos ≤ r.b.length) :
 Tri Tryz.prog 53 [.pointer (some ⟨pr, 0, none⟩)] (rd pr p c r) (fun v H' => v = .bool (decide (r.fin.1 = 0)) ∧ H' = rd pr p c r) := by
 refine qd Tryz.func53 rfl Tryz.ntmps53 (by simp) ?_; refine zM (zK (zH rfl (zO rfl) rfl (zN ?_)))
 repeat (first | refine zQ ?_ | refine zV ?_ | refine ze ?_)
 refine zI (zM (zK (zH rfl (zL rfl) rfl (zT rfl (zb Tryz.call103 rfl rfl (zG 0 rfl (zG 0 rfl (zR _))) (end_spec pr p c r hl hp)) rfl ?_)))); rintro _ H' ⟨_, ⟨rfl, rfl⟩, hH⟩; simp only [zy7] at hH; subst hH; refine zH rfl (zL rfl) rfl (zH rfl (zu rfl rfl) rfl (zH rfl (zu rfl rfl) rfl (zH rfl (zO rfl) rfl (zH rfl (zO rfl) rfl (zN ?_)))))
 repeat (first | refine zQ ?_ | refine zV ?_ | refine ze ?_)
 refine zI (zM (zK (zH rfl (zL rfl) rfl (zH rfl (qQ rfl rfl rfl) rfl (zH rfl (zO rfl) rfl ?_))))); refine zN ?_
 repeat (first | refine zQ ?_ | refine zV ?_ | refine ze ?_)
 refine zI (zi ?_)
 repeat (first | refine zh ?_ | refine zn ?_ | refine qr ?_ | refine yH ?_)
 refine yG (qk rfl rfl) ?_; exact ⟨rfl, rfl⟩
end Go.Proofs.YtlefpllcgcicpaaGreatDoor
