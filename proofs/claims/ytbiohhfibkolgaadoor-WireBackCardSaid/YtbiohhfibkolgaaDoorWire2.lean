/-
  More of what the writer does: numbers as texts; texts cut.
-/
import Derived.Test.YtbiohhfibkolgaaDoorRead
import Derived.Test.YtbiohhfibkolgaaDoorSxLock
namespace Go.Proofs.YtbiohhfibkolgaaDoor
open Go.Sx
set_option linter.unusedVariables false
set_option linter.unusedSimpArgs false
set_option maxRecDepth 100000

theorem vwPtr {L : HProp} {n c : Nat} {q : Option Addr} {xs : List Value} (h : Vw L (.slice q n c) n xs) {w : World} {R : HProp} (s : sat w (star L R)) (h0 : n ≠ 0) : ∃ b o, q = some ⟨b, o, none⟩ := by
  rcases h w R s with ⟨_, _, h2, _⟩ | ⟨b, o, cap, h1, _⟩
  · omega
  · injection h1 with h1 _ _; exact ⟨b, o, h1⟩
theorem vwRdn {V : HProp} {b o n c : Nat} {xs : List Value} (h : Vw V (.slice (some ⟨b, o, none⟩) n c) n xs) : RdN V b o xs := fun j u hj w R s => by
  rcases h w R s with ⟨q, _, _, h3⟩ | ⟨b', o', c', h1, h2⟩
  · subst h3; simp at hj
  · injection h1 with h1 _ _; injection h1 with h1; injection h1 with h1 h3; subst h1; subst h3
    exact h2 j u hj
/-- no more of a text than n -/
def hd (s : ByteArray) (n : Nat) : ByteArray := if n < s.size then s.extract 0 n else s
theorem head_spec (s : ByteArray) (n : Nat) : Tri Tryd.prog 8 [.string s, .int .i64 n] [] (fun v H' => v = .string (hd s n) ∧ H' = []) := by
  by_cases h : n < s.size
  · skip
    refine tri_of_wp Tryd.func8 rfl Tryd.ntmps8 (by simp) ?_
    refine wp_seq' ?_
    refine wp_region' ?_
    refine ops_ro' rfl (ro_assign rfl) rfl ?_
    refine ops_nil ?_
    repeat (first | refine InBlock_normal ?_ | refine NoGoto_normal ?_ | refine Jump_normal ?_)
    refine Then_normal ?_
    refine wp_seq' ?_
    refine wp_seq' ?_
    refine wp_region' ?_
    refine ops_ro' rfl (ro_move rfl) rfl ?_
    refine ops_ro' rfl (ro_strLen (t' := 0) Tryd.underlying9 rfl) rfl ?_
    refine ops_ro' rfl (ro_move rfl) rfl ?_
    refine ops_ro' rfl (ro_gtr rfl rfl (decide_eq_true (by omega))) rfl ?_
    refine ops_nil ?_
    repeat (first | refine InBlock_normal ?_ | refine NoGoto_normal ?_ | refine Jump_normal ?_)
    refine Then_normal ?_
    refine wp_condT rfl ?_
    refine wp_seq' ?_
    refine wp_region' ?_
    refine ops_ro' rfl (ro_move rfl) rfl ?_
    refine ops_ro' rfl (ro_move rfl) rfl ?_
    refine ops_ro' rfl (ro_sliceStr (l := 0) (h := n) Tryd.underlying9 rfl rfl (bnd_of rfl rfl) (by omega) (by omega)) rfl ?_
    refine ops_ro' rfl (ro_assign rfl) rfl ?_
    refine ops_nil ?_
    repeat (first | refine InBlock_normal ?_ | refine NoGoto_normal ?_ | refine Jump_normal ?_)
    refine Then_normal ?_
    refine wp_ret' ?_
    repeat (first | refine Then_ret ?_ | refine InBlock_ret ?_ | refine NoGoto_ret ?_ | refine Jump_ret ?_)
    refine done_ret (res1 rfl rfl) ?_
    exact ⟨by rw [hd, if_pos h], rfl⟩
  · skip
    refine tri_of_wp Tryd.func8 rfl Tryd.ntmps8 (by simp) ?_
    refine wp_seq' ?_
    refine wp_region' ?_
    refine ops_ro' rfl (ro_assign rfl) rfl ?_
    refine ops_nil ?_
    repeat (first | refine InBlock_normal ?_ | refine NoGoto_normal ?_ | refine Jump_normal ?_)
    refine Then_normal ?_
    refine wp_seq' ?_
    refine wp_seq' ?_
    refine wp_region' ?_
    refine ops_ro' rfl (ro_move rfl) rfl ?_
    refine ops_ro' rfl (ro_strLen (t' := 0) Tryd.underlying9 rfl) rfl ?_
    refine ops_ro' rfl (ro_move rfl) rfl ?_
    refine ops_ro' rfl (ro_gtr rfl rfl (decide_eq_false (by omega))) rfl ?_
    refine ops_nil ?_
    repeat (first | refine InBlock_normal ?_ | refine NoGoto_normal ?_ | refine Jump_normal ?_)
    refine Then_normal ?_
    refine wp_condF rfl ?_
    refine wp_skip' ?_
    repeat (first | refine InBlock_normal ?_ | refine NoGoto_normal ?_ | refine Jump_normal ?_)
    refine Then_normal ?_
    refine wp_seq' ?_
    refine wp_region' ?_
    refine ops_ro' rfl (ro_move rfl) rfl ?_
    refine ops_ro' rfl (ro_assign rfl) rfl ?_
    refine ops_nil ?_
    repeat (first | refine InBlock_normal ?_ | refine NoGoto_normal ?_ | refine Jump_normal ?_)
    refine Then_normal ?_
    refine wp_ret' ?_
    repeat (first | refine Then_ret ?_ | refine InBlock_ret ?_ | refine NoGoto_ret ?_ | refine Jump_ret ?_)
    refine done_ret (res1 rfl rfl) ?_
    exact ⟨by rw [hd, if_neg h], rfl⟩
theorem hd_size (s : ByteArray) (n : Nat) : (hd s n).size ≤ n := by
  unfold hd; split
  · rw [ByteArray.size_extract]; omega
  · omega
/-- without noughts ahead -/
def bare (l : List UInt8) : List UInt8 := l.dropWhile (fun d => d == 0)
theorem bare_zero (l : List UInt8) : bare (0 :: l) = bare l := by simp [bare]
theorem bare_stop {d : UInt8} (l : List UInt8) (h : ¬ d = 0) : bare (d :: l) = d :: l := by simp [bare, h]
def top (b : List UInt8) : List UInt8 := match b with | [] => [] | d :: l => if 128 ≤ d.toNat then 0 :: d :: l else d :: l
/-- a number as a text -/
def mp (l : List UInt8) : List UInt8 := be (top (bare l)).length 4 ++ top (bare l)
theorem mp_top {l l2 : List UInt8} {d : UInt8} (hb : bare (d :: l2) = bare l) (hz : ¬ d = 0) (h : (128 : Int) ≤ (d.toNat : Int)) : mp l = be (0 :: d :: l2).length 4 ++ (0 :: d :: l2) := by
  unfold mp; rw [← hb, bare_stop l2 hz, top, if_pos (by omega)]
theorem mp_low {l l2 : List UInt8} {d : UInt8} (hb : bare (d :: l2) = bare l) (hz : ¬ d = 0) (h : ¬ (128 : Int) ≤ (d.toNat : Int)) : mp l = be (d :: l2).length 4 ++ (d :: l2) := by
  unfold mp; rw [← hb, bare_stop l2 hz, top, if_neg (by omega)]
theorem mpint_spec (V : HProp) (q : Option Addr) (cq : Nat) (l : List UInt8) (hV : Vw V (.slice q l.length cq) l.length (cel l)) (hcq : l.length ≤ cq) (pw : Nat) (p : Option Addr) (c : Nat) (acc : List UInt8) (hl : l.length ≤ 35184372088000) (ha : acc.length ≤ 35184372088832) :
    Tri Tryd.prog 21 [.pointer (some ⟨pw, 0, none⟩), .slice q l.length cq] (wr pw p c acc ++ [V]) (fun v H' => ∃ p' c', v = .tuple #[] ∧ H' = wr pw p' c' (acc ++ mp l) ++ [V]) := by
  refine tri_of_wp Tryd.func21 rfl Tryd.ntmps21 (by simp) ?_
  refine wp_seq' ?_
  refine wp_block' ?_
  refine wp_loop' (fun m Γ H => ∃ q c1 l1, l1.length = m ∧ l1.length ≤ c1 ∧ l1.length ≤ l.length ∧ bare l1 = bare l ∧ Vw V (.slice q l1.length c1) l1.length (cel l1) ∧ Has Γ [(0, .pointer (some ⟨pw, 0, none⟩)), (1, .slice q l1.length c1)] ∧ H = wr pw p c acc ++ [V]) (m := l.length) ⟨q, cq, l, rfl, hcq, Nat.le_refl _, rfl, hV, Has.cons rfl (Has.cons rfl (Has.nil _)), rfl⟩ ?_
  rintro m Γ H ⟨q1, c1, l1, hm, hcap1, hle, hbare, hV1, hΓ, rfl⟩
  refine wp_has hΓ ?_
  refine wp_seq' ?_
  refine wp_seq' ?_
  rcases l1 with _ | ⟨d, l2⟩
  · refine wp_region' ?_
    refine ops_ro' rfl (ro_move rfl) rfl ?_
    refine ops_ro' rfl (ro_sliceLen Tryd.underlying28 rfl) rfl ?_
    refine ops_ro' rfl (ro_gtr rfl rfl (decide_eq_false (by simp))) rfl ?_
    refine ops_ro' rfl (ro_move rfl) rfl ?_
    refine ops_skip rfl rfl ?_
    refine ops_skip rfl rfl ?_
    refine ops_skip rfl rfl ?_
    refine ops_skip rfl rfl ?_
    refine ops_ro' rfl (ro_pick rfl rfl) rfl ?_
    refine ops_nil ?_
    repeat (first | refine InBlock_normal ?_ | refine NoGoto_normal ?_ | refine Jump_normal ?_)
    refine Then_normal ?_
    refine wp_condF rfl ?_
    refine wp_exit' ?_
    repeat (first | refine Then_exit ?_ | refine NoGoto_exit ?_ | refine Jump_exit ?_ | refine InBlock_here ?_ | refine InBlock_far rfl ?_)
    repeat (first | refine InBlock_normal ?_ | refine NoGoto_normal ?_ | refine Jump_normal ?_)
    refine Then_normal ?_
    refine wp_seq' ?_
    refine wp_region' ?_
    refine ops_ro' rfl (ro_move rfl) rfl ?_
    refine ops_ro' rfl (ro_toStr Tryd.underlying28 Tryd.underlying5 Tryd.underlying9 rfl (Vw.pick 2 rfl hV1) rfl) rfl ?_
    refine ops_ro' rfl (ro_assign rfl) rfl ?_
    refine ops_nil ?_
    repeat (first | refine InBlock_normal ?_ | refine NoGoto_normal ?_ | refine Jump_normal ?_)
    refine Then_normal ?_
    refine wp_seq' ?_
    refine wp_seq' ?_
    refine wp_region' ?_
    refine ops_ro' rfl (ro_move rfl) rfl ?_
    refine ops_ro' rfl (ro_strNeq rfl rfl (decide_eq_false (fun h => h rfl))) rfl ?_
    refine ops_ro' rfl (ro_move rfl) rfl ?_
    refine ops_skip rfl rfl ?_
    refine ops_skip rfl rfl ?_
    refine ops_skip rfl rfl ?_
    refine ops_ro' rfl (ro_pick rfl rfl) rfl ?_
    refine ops_nil ?_
    repeat (first | refine InBlock_normal ?_ | refine NoGoto_normal ?_ | refine Jump_normal ?_)
    refine Then_normal ?_
    refine wp_condF rfl ?_
    refine wp_skip' ?_
    repeat (first | refine InBlock_normal ?_ | refine NoGoto_normal ?_ | refine Jump_normal ?_)
    refine Then_normal ?_
    refine wp_region' ?_
    refine ops_ro' rfl (ro_move rfl) rfl ?_
    refine ops_ro' rfl (ro_move rfl) rfl ?_
    refine ops_eff' rfl (eff_call Tryd.call10 rfl rfl (Split.cons 0 rfl (Split.cons 0 rfl (Split.nil _))) (text_spec _ _ _ acc (str []) (by decide) (by omega))) rfl ?_
    rintro _ H' ⟨_, ⟨p', c', rfl, rfl⟩, hH⟩
    simp only [List.cons_append, List.nil_append, List.eraseIdx_cons_zero, List.eraseIdx_cons_succ, List.set_cons_zero, List.set_cons_succ] at hH
    subst hH
    refine ops_nil ?_
    repeat (first | refine InBlock_normal ?_ | refine NoGoto_normal ?_ | refine Jump_normal ?_)
    refine done_normal (res0 rfl) ?_
    refine ⟨p', c', rfl, ?_⟩
    have e : mp l = be (str []).size 4 ++ (str []).data.toList := by rw [mp, ← hbare]; rfl
    rw [e, List.append_assoc]; rfl
  · refine wp_know (fun w F s => vwPtr (Vw.pick (H := [_, _, V]) 2 rfl hV1) s (by simp)) ?_
    rintro ⟨bb, o, rfl⟩
    refine wp_region' ?_
    refine ops_ro' rfl (ro_move rfl) rfl ?_
    refine ops_ro' rfl (ro_sliceLen Tryd.underlying28 rfl) rfl ?_
    refine ops_ro' rfl (ro_gtr rfl rfl (decide_eq_true (by simp))) rfl ?_
    refine ops_ro' rfl (ro_move rfl) rfl ?_
    refine ops_ro' rfl (ro_move rfl) rfl ?_
    refine ops_ro' rfl (ro_indexSlice sl28 rfl rfl rfl (by simp)) rfl ?_
    refine ops_ro' rfl (ro_load sc5 rfl (Rd.pick 2 rfl (vwRdn hV1 0 _ rfl))) rfl ?_
    refine ops_ro' rfl (ro_eql rfl rfl rfl) rfl ?_
    refine ops_ro' rfl (ro_pick rfl rfl) rfl ?_
    refine ops_nil ?_
    repeat (first | refine InBlock_normal ?_ | refine NoGoto_normal ?_ | refine Jump_normal ?_)
    refine Then_normal ?_
    refine wp_cond' rfl (fun hc0 => ?_) (fun hc0 => ?_)
    · try replace hc0 := of_decide_eq_true hc0
      have hz : d = 0 := by
        apply UInt8.toNat_inj.1
        have : ((d.toNat : Nat) : Int) = 0 := hc0
        show d.toNat = 0; omega
      refine wp_skip' ?_
      repeat (first | refine InBlock_normal ?_ | refine NoGoto_normal ?_ | refine Jump_normal ?_)
      refine Then_normal ?_
      refine wp_block' ?_
      refine wp_region' ?_
      refine ops_ro' rfl (ro_move rfl) rfl ?_
      refine ops_ro' rfl (ro_slice (l := 1) (h := (d :: l2).length) sl28 rfl (bnd_of rfl rfl) rfl (by simp) (by omega)) rfl ?_
      refine ops_ro' rfl (ro_assign rfl) rfl ?_
      refine ops_nil ?_
      repeat (first | refine InBlock_normal ?_ | refine NoGoto_normal ?_ | refine Jump_normal ?_)
      refine Then_normal ?_
      have h1 : (d :: l2).length - 1 = l2.length := by simp
      refine ⟨l2.length, by simp only [List.length_cons] at hm; omega, some (if c1 = 1 then ⟨bb, o, none⟩ else ⟨bb, o + 1 * 1, none⟩), c1 - 1, l2, rfl, by simp only [List.length_cons] at hcap1; omega, by simp only [List.length_cons] at hle; omega, by rw [← hbare, hz, bare_zero], ?_, Has.cons rfl (Has.cons ?_ (Has.nil _)), rfl⟩
      · have hh := Vw.resl (l := 1) (h := (d :: l2).length) (size := 1) (vwRdn hV1) (by simp) (Nat.le_refl _) hcap1 (by simp [cel_length])
        rw [h1] at hh
        have e : ((cel (d :: l2)).drop (1 * 1)).take (l2.length * 1) = cel l2 := by simp [cel, List.take_of_length_le]
        rw [e, resl, h1] at hh; exact hh
      · exact congrArg some (by rw [resl, h1])
    · try replace hc0 := of_decide_eq_false hc0
      have hz : ¬ d = 0 := fun e => hc0 (by rw [e]; rfl)
      refine wp_exit' ?_
      repeat (first | refine Then_exit ?_ | refine NoGoto_exit ?_ | refine Jump_exit ?_ | refine InBlock_here ?_ | refine InBlock_far rfl ?_)
      repeat (first | refine InBlock_normal ?_ | refine NoGoto_normal ?_ | refine Jump_normal ?_)
      refine Then_normal ?_
      refine wp_seq' ?_
      refine wp_region' ?_
      refine ops_ro' rfl (ro_move rfl) rfl ?_
      refine ops_ro' rfl (ro_toStr Tryd.underlying28 Tryd.underlying5 Tryd.underlying9 rfl (Vw.pick 2 rfl hV1) rfl) rfl ?_
      refine ops_ro' rfl (ro_assign rfl) rfl ?_
      refine ops_nil ?_
      repeat (first | refine InBlock_normal ?_ | refine NoGoto_normal ?_ | refine Jump_normal ?_)
      refine Then_normal ?_
      refine wp_seq' ?_
      refine wp_seq' ?_
      refine wp_region' ?_
      refine ops_ro' rfl (ro_move rfl) rfl ?_
      refine ops_ro' rfl (ro_strNeq rfl rfl (decide_eq_true (by simp [str]))) rfl ?_
      refine ops_ro' rfl (ro_move rfl) rfl ?_
      refine ops_ro' rfl (ro_move rfl) rfl ?_
      refine ops_ro' rfl (ro_strIndex (i := 0) Tryd.underlying9 rfl rfl rfl (by rw [str_size]; simp)) rfl ?_
      refine ops_ro' rfl (ro_geq rfl rfl rfl) rfl ?_
      refine ops_ro' rfl (ro_pick rfl rfl) rfl ?_
      refine ops_nil ?_
      repeat (first | refine InBlock_normal ?_ | refine NoGoto_normal ?_ | refine Jump_normal ?_)
      refine Then_normal ?_
      refine wp_cond' rfl (fun hc1 => ?_) (fun hc1 => ?_)
      · try replace hc1 := of_decide_eq_true hc1
        refine wp_region' ?_
        refine ops_ro' rfl (ro_move rfl) rfl ?_
        refine ops_ro' rfl (ro_strAdd rfl rfl (by rw [str_size]; simp only [List.length_cons] at hle ⊢; show 1 + _ ≤ _; omega)) rfl ?_
        refine ops_ro' rfl (ro_assign rfl) rfl ?_
        refine ops_nil ?_
        repeat (first | refine InBlock_normal ?_ | refine NoGoto_normal ?_ | refine Jump_normal ?_)
        refine Then_normal ?_
        refine wp_region' ?_
        refine ops_ro' rfl (ro_move rfl) rfl ?_
        refine ops_ro' rfl (ro_move rfl) rfl ?_
        refine ops_eff' rfl (eff_call Tryd.call10 rfl rfl (Split.cons 0 rfl (Split.cons 0 rfl (Split.nil _))) (text_spec _ _ _ acc _ (by first | (rw [show (ByteArray.mk #[0] ++ str (d :: l2)) = str (0 :: d :: l2) from str_append [0] (d :: l2), str_size]; simp only [List.length_cons] at hle ⊢; omega) | (rw [str_size]; simp only [List.length_cons] at hle ⊢; omega)) (by omega))) rfl ?_
        rintro _ H' ⟨_, ⟨p', c', rfl, rfl⟩, hH⟩
        simp only [List.cons_append, List.nil_append, List.eraseIdx_cons_zero, List.eraseIdx_cons_succ, List.set_cons_zero, List.set_cons_succ] at hH
        subst hH
        refine ops_nil ?_
        repeat (first | refine InBlock_normal ?_ | refine NoGoto_normal ?_ | refine Jump_normal ?_)
        refine done_normal (res0 rfl) ?_
        refine ⟨p', c', rfl, ?_⟩
        have e : mp l = be (str (0 :: d :: l2)).size 4 ++ (str (0 :: d :: l2)).data.toList := by rw [mp_top hbare hz hc1]; rfl
        rw [e, List.append_assoc]; rfl
      · try replace hc1 := of_decide_eq_false hc1
        refine wp_skip' ?_
        repeat (first | refine InBlock_normal ?_ | refine NoGoto_normal ?_ | refine Jump_normal ?_)
        refine Then_normal ?_
        refine wp_region' ?_
        refine ops_ro' rfl (ro_move rfl) rfl ?_
        refine ops_ro' rfl (ro_move rfl) rfl ?_
        refine ops_eff' rfl (eff_call Tryd.call10 rfl rfl (Split.cons 0 rfl (Split.cons 0 rfl (Split.nil _))) (text_spec _ _ _ acc _ (by first | (rw [show (ByteArray.mk #[0] ++ str (d :: l2)) = str (0 :: d :: l2) from str_append [0] (d :: l2), str_size]; simp only [List.length_cons] at hle ⊢; omega) | (rw [str_size]; simp only [List.length_cons] at hle ⊢; omega)) (by omega))) rfl ?_
        rintro _ H' ⟨_, ⟨p', c', rfl, rfl⟩, hH⟩
        simp only [List.cons_append, List.nil_append, List.eraseIdx_cons_zero, List.eraseIdx_cons_succ, List.set_cons_zero, List.set_cons_succ] at hH
        subst hH
        refine ops_nil ?_
        repeat (first | refine InBlock_normal ?_ | refine NoGoto_normal ?_ | refine Jump_normal ?_)
        refine done_normal (res0 rfl) ?_
        refine ⟨p', c', rfl, ?_⟩
        have e : mp l = be (str (d :: l2)).size 4 ++ (str (d :: l2)).data.toList := by rw [mp_low hbare hz hc1]; rfl
        rw [e, List.append_assoc]; rfl

end Go.Proofs.YtbiohhfibkolgaaDoor
