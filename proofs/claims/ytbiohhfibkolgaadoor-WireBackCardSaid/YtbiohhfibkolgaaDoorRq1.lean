/-
  The reader of package strongroomref1.
-/
import Derived.Test.YtbiohhfibkolgaaDoorRefR
import Derived.Test.YtbiohhfibkolgaaDoorRd1
import Derived.Test.YtbiohhfibkolgaaDoorQw
namespace Go.Proofs.YtbiohhfibkolgaaDoor
open Go.Sx
set_option linter.unusedVariables false
set_option linter.unusedSimpArgs false
set_option maxRecDepth 100000
set_option maxHeartbeats 4000000

structure Rin (V : HProp) (p : Option Addr) (c : Nat) (b : List UInt8) : Prop where
  vw : Vw V (.slice p b.length c) b.length (cel b)
  cap : b.length ≤ c
  len : b.length ≤ 140737488355328
structure R.On (r : R) (b : List UInt8) : Prop where
  hb : r.b = b
  pos : r.pos ≤ b.length
theorem R.on_new (b : List UInt8) : (R.new b).On b := ⟨rfl, Nat.zero_le _⟩
theorem R.on_good {r : R} {b : List UInt8} (h : r.On b) (hl : b.length ≤ 140737488355328) : r.Good := ⟨by rw [h.hb]; exact hl, by rw [h.hb]; exact h.pos⟩
theorem R.on_take {r : R} {b : List UInt8} (h : r.On b) (n : Int) : (r.take n).1.On b := ⟨by rw [take_b]; exact h.hb, by have := take_pos r n (by rw [h.hb]; exact h.pos); rwa [take_b, h.hb] at this⟩
theorem R.on_get {r : R} {b : List UInt8} (h : r.On b) (n : Nat) : (r.get n).1.On b := R.on_take h n
theorem R.on_refuse {r : R} {b : List UInt8} (h : r.On b) (w k : Int) : (r.refuse w k).On b := by unfold R.refuse; split; exact ⟨h.hb, h.pos⟩; exact h
theorem R.on_fail {r : R} {b : List UInt8} (h : r.On b) (w : Int) : (r.fail w).On b := by unfold R.fail; split; exact h; exact R.on_refuse h _ _
theorem R.on_text {r : R} {b : List UInt8} (h : r.On b) (n : Int) : (r.text n).1.On b := by
  unfold R.text
  refine R.on_take ?_ _
  generalize (if 0 > n then 0 else n) = z
  split
  · exact R.on_refuse (R.on_get h 4) _ _
  · exact R.on_get h 4
theorem R.on_mp {r : R} {b : List UInt8} (h : r.On b) (n : Int) : (r.mp n).1.On b := by
  unfold R.mp; split
  · exact R.on_text h n
  · split
    · exact R.on_refuse (R.on_text h n) _ _
    · exact R.on_text h n
theorem text_long {r : R} {most : Int} (h : (r.get 4).1.why = 0) (hn : (if 0 > most then 0 else most) < ((r.get 4).2 : Int)) : r.text most = ((r.get 4).1.refuse 3 r.pos, []) := by
  unfold R.text; rw [if_pos hn]
  have h3 : ((r.get 4).1.refuse 3 r.pos).why ≠ 0 := by unfold R.refuse; rw [if_pos h]; exact (by decide : (3 : Int) ≠ 0)
  generalize (r.get 4).1.refuse 3 r.pos = q at *
  unfold R.take; rw [if_pos h3]
theorem text_ok {r : R} {most : Int} (h : (r.get 4).1.why ≠ 0 ∨ ¬ (if 0 > most then 0 else most) < ((r.get 4).2 : Int)) : r.text most = (r.get 4).1.take ((r.get 4).2 : Nat) := by
  unfold R.text
  generalize (if 0 > most then 0 else most) = z at *
  split
  · rename_i hn
    rw [show (r.get 4).1.refuse 3 r.pos = (r.get 4).1 from by unfold R.refuse; rw [if_neg (by rcases h with h | h; exact h; exact absurd hn h)]]
  · rfl
theorem take_bad {r : R} {n : Int} (h : (r.take n).1.why ≠ 0) : (r.take n).2 = [] := by
  unfold R.take at *
  split
  · rfl
  · rename_i h1
    rw [if_neg h1] at h
    split
    · rfl
    · rename_i h2
      rw [if_neg h2] at h
      split
      · rfl
      · rename_i h3
        rw [if_neg h3] at h
        exact absurd h h1
theorem text_bad {r : R} {n : Int} (h : (r.text n).1.why ≠ 0) : (r.text n).2 = [] := by unfold R.text at *; exact take_bad h


theorem qRaw {V : HProp} (pr : Nat) (p : Option Addr) (c : Nat) (b : List UInt8) (r : R) (hi : Rin V p c b) (hr : r.On b) (n : Int) :
    Tri Tryd.prog 60 [.pointer (some ⟨pr, 0, none⟩), .int .i64 n] ([rq pr (.slice p b.length c) r] ++ [V]) (fun v H' => ∃ K, (∃ A, Out v (r.take n).2 A ∧ K = [A, rq pr (.slice p b.length c) (r.take n).1]) ∧ H' = K ++ [V]) := by
  obtain ⟨rfl, hp⟩ := hr
  exact tri_post (raw_spec pr p c r n V hi.vw hi.cap hi.len hp) fun v H ⟨A, h1, h2⟩ => ⟨_, ⟨A, h1, rfl⟩, h2⟩


theorem qNum {V : HProp} (pr : Nat) (p : Option Addr) (c : Nat) (b : List UInt8) (r : R) (hi : Rin V p c b) (hr : r.On b) (size : Nat) (h8 : size ≤ 8) :
    Tri Tryd.prog 79 [.pointer (some ⟨pr, 0, none⟩), .int .i64 size] ([rq pr (.slice p b.length c) r] ++ [V]) (fun v H' => ∃ K, (v = .int .u64 (r.get size).2 ∧ K = [rq pr (.slice p b.length c) (r.get size).1]) ∧ H' = K ++ [V]) := by
  obtain ⟨rfl, hp⟩ := hr
  exact tri_post (number_spec pr p c r size h8 V hi.vw hi.cap hi.len hp) fun v H ⟨h1, h2⟩ => ⟨_, ⟨h1, rfl⟩, h2⟩


theorem qU32 {V : HProp} (pr : Nat) (p : Option Addr) (c : Nat) (b : List UInt8) (r : R) (hi : Rin V p c b) (hr : r.On b) :
    Tri Tryd.prog 55 [.pointer (some ⟨pr, 0, none⟩)] ([rq pr (.slice p b.length c) r] ++ [V]) (fun v H' => ∃ K, (v = .int .u32 (r.get 4).2 ∧ K = [rq pr (.slice p b.length c) (r.get 4).1]) ∧ H' = K ++ [V]) := by
  obtain ⟨rfl, hp⟩ := hr
  exact tri_post (q32_spec pr p c r V hi.vw hi.cap hi.len hp) fun v H ⟨h1, h2⟩ => ⟨_, ⟨h1, rfl⟩, h2⟩


theorem qU64 {V : HProp} (pr : Nat) (p : Option Addr) (c : Nat) (b : List UInt8) (r : R) (hi : Rin V p c b) (hr : r.On b) :
    Tri Tryd.prog 56 [.pointer (some ⟨pr, 0, none⟩)] ([rq pr (.slice p b.length c) r] ++ [V]) (fun v H' => ∃ K, (v = .int .u64 (r.get 8).2 ∧ K = [rq pr (.slice p b.length c) (r.get 8).1]) ∧ H' = K ++ [V]) := by
  obtain ⟨rfl, hp⟩ := hr
  exact tri_post (q64_spec pr p c r V hi.vw hi.cap hi.len hp) fun v H ⟨h1, h2⟩ => ⟨_, ⟨h1, rfl⟩, h2⟩


theorem qEnd (pr : Nat) (p : Option Addr) (c : Nat) (b : List UInt8) (r : R) (hr : r.On b) (hl : b.length ≤ 140737488355328) :
    Tri Tryd.prog 64 [.pointer (some ⟨pr, 0, none⟩)] [rq pr (.slice p b.length c) r] (fun v H' => v = .tuple #[.int .i64 r.fin.1, .int .i64 r.fin.2] ∧ H' = [rq pr (.slice p b.length c) r]) := by
  obtain ⟨rfl, hp⟩ := hr
  exact qend_spec pr p c r hl hp


theorem qByte {V : HProp} (pr : Nat) (p : Option Addr) (c : Nat) (b : List UInt8) (r : R) (hi : Rin V p c b) (hr : r.On b) : Tri Tryd.prog 53 [.pointer (some ⟨pr, 0, none⟩)] ([rq pr (.slice p b.length c) r] ++ [V]) (fun v H' => ∃ K, (v = .int .i64 (r.get 1).2 ∧ K = [rq pr (.slice p b.length c) (r.get 1).1]) ∧ H' = K ++ [V]) := by
  refine tri_of_wpS Tryd.func53 rfl Tryd.ntmps53 (by simp) ?_
  refine wp_seq' ?_
  refine wp_region' ?_
  refine ops_ro' rfl (ro_assign rfl) rfl ?_
  refine ops_nil ?_
  refine Then_normal ?_
  refine wp_seq' ?_
  refine wp_region' ?_
  refine ops_ro' rfl (ro_move rfl) rfl ?_
  refine ops_eff' rfl (eff_callM (Pre := [_]) Tryd.call79 rfl rfl (by repeat (first | exact Split.nil _ | apply Split.cons 0 rfl | apply Split.cons 1 rfl | apply Split.cons 2 rfl | apply Split.cons 3 rfl | apply Split.cons 4 rfl | apply Split.cons 5 rfl | apply Split.cons 6 rfl | apply Split.cons 7 rfl | apply Split.cons 8 rfl | apply Split.cons 9 rfl | apply Split.cons 10 rfl | apply Split.cons 11 rfl)) (qNum pr p c b r ⟨Vw.pick 0 rfl hi.vw, hi.cap, hi.len⟩ hr 1 (by omega))) rfl ?_
  rintro _ H' ⟨_, ⟨rfl, rfl⟩, hH⟩
  simp only [List.cons_append, List.nil_append, List.eraseIdx_cons_zero, List.eraseIdx_cons_succ, List.set_cons_zero, List.set_cons_succ] at hH
  subst hH
  have hlt := get_lt r 1
  simp only [Nat.reducePow] at hlt
  refine ops_ro' rfl (ro_conv Tryd.underlying38 Tryd.underlying3 rfl (wrap_natN (by omega))) rfl ?_
  refine ops_ro' rfl (ro_assign rfl) rfl ?_
  refine ops_nil ?_
  refine Then_normal ?_
  refine wp_ret' ?_
  refine' doneS_ret (res1 rfl rfl) ?_ ?_
  rotate_left 1
  exact ⟨_, ⟨rfl, rfl⟩, rfl⟩
  exact SubH.refl _


theorem qBool {V : HProp} (pr : Nat) (p : Option Addr) (c : Nat) (b : List UInt8) (r : R) (hi : Rin V p c b) (hr : r.On b) : Tri Tryd.prog 54 [.pointer (some ⟨pr, 0, none⟩)] ([rq pr (.slice p b.length c) r] ++ [V]) (fun v H' => ∃ K, (v = .bool (decide (((r.get 1).2 : Int) ≠ 0)) ∧ K = [rq pr (.slice p b.length c) (r.get 1).1]) ∧ H' = K ++ [V]) := by
  refine tri_of_wpS Tryd.func54 rfl Tryd.ntmps54 (by simp) ?_
  refine wp_seq' ?_
  refine wp_region' ?_
  refine ops_ro' rfl (ro_assign rfl) rfl ?_
  refine ops_nil ?_
  refine Then_normal ?_
  refine wp_seq' ?_
  refine wp_region' ?_
  refine ops_ro' rfl (ro_move rfl) rfl ?_
  refine ops_eff' rfl (eff_callM (Pre := [_]) Tryd.call79 rfl rfl (by repeat (first | exact Split.nil _ | apply Split.cons 0 rfl | apply Split.cons 1 rfl | apply Split.cons 2 rfl | apply Split.cons 3 rfl | apply Split.cons 4 rfl | apply Split.cons 5 rfl | apply Split.cons 6 rfl | apply Split.cons 7 rfl | apply Split.cons 8 rfl | apply Split.cons 9 rfl | apply Split.cons 10 rfl | apply Split.cons 11 rfl)) (qNum pr p c b r ⟨Vw.pick 0 rfl hi.vw, hi.cap, hi.len⟩ hr 1 (by omega))) rfl ?_
  rintro _ H' ⟨_, ⟨rfl, rfl⟩, hH⟩
  simp only [List.cons_append, List.nil_append, List.eraseIdx_cons_zero, List.eraseIdx_cons_succ, List.set_cons_zero, List.set_cons_succ] at hH
  subst hH
  refine ops_ro' rfl (ro_neq rfl rfl rfl) rfl ?_
  refine ops_ro' rfl (ro_assign rfl) rfl ?_
  refine ops_nil ?_
  refine Then_normal ?_
  refine wp_ret' ?_
  refine' doneS_ret (res1 rfl rfl) ?_ ?_
  rotate_left 1
  exact ⟨_, ⟨rfl, rfl⟩, rfl⟩
  exact SubH.refl _


theorem qText {V : HProp} (pr : Nat) (p : Option Addr) (c : Nat) (b : List UInt8) (r : R) (hi : Rin V p c b) (hr : r.On b) (most : Int) (hm : -9223372036854775808 ≤ most ∧ most ≤ 9223372036854775807) : Tri Tryd.prog 57 [.pointer (some ⟨pr, 0, none⟩), .int .i64 most] ([rq pr (.slice p b.length c) r] ++ [V]) (fun v H' => ∃ K, (v = .string (str (r.text most).2) ∧ K = [rq pr (.slice p b.length c) (r.text most).1]) ∧ H' = K ++ [V]) := by
  refine tri_of_wpS Tryd.func57 rfl Tryd.ntmps57 (by simp) ?_
  refine wp_seq' ?_
  refine wp_region' ?_
  refine ops_ro' rfl (ro_assign rfl) rfl ?_
  refine ops_nil ?_
  refine Then_normal ?_
  refine wp_seq' ?_
  refine wp_region' ?_
  refine ops_ro' rfl (ro_move rfl) rfl ?_
  refine ops_ro' rfl (ro_nilCheck rfl) rfl ?_
  refine ops_ro' rfl (ro_fieldAddr fa60_1 rfl) rfl ?_
  refine ops_ro' rfl (ro_load sc3 rfl (Rd.pick 0 rfl (Rd.own rfl))) rfl ?_
  refine ops_ro' rfl (ro_assign rfl) rfl ?_
  refine ops_nil ?_
  refine Then_normal ?_
  refine wp_seq' ?_
  refine wp_region' ?_
  refine ops_ro' rfl (ro_move rfl) rfl ?_
  refine ops_eff' rfl (eff_callM (Pre := [_]) Tryd.call55 rfl rfl (by repeat (first | exact Split.nil _ | apply Split.cons 0 rfl | apply Split.cons 1 rfl | apply Split.cons 2 rfl | apply Split.cons 3 rfl | apply Split.cons 4 rfl | apply Split.cons 5 rfl | apply Split.cons 6 rfl | apply Split.cons 7 rfl | apply Split.cons 8 rfl | apply Split.cons 9 rfl | apply Split.cons 10 rfl | apply Split.cons 11 rfl)) (qU32 pr p c b r ⟨Vw.pick 0 rfl hi.vw, hi.cap, hi.len⟩ hr)) rfl ?_
  rintro _ H' ⟨_, ⟨rfl, rfl⟩, hH⟩
  simp only [List.cons_append, List.nil_append, List.eraseIdx_cons_zero, List.eraseIdx_cons_succ, List.set_cons_zero, List.set_cons_succ] at hH
  subst hH
  have hlt := get_lt r 4
  simp only [Nat.reducePow] at hlt
  have h4 := R.on_get hr 4
  refine ops_ro' rfl (ro_assign rfl) rfl ?_
  refine ops_nil ?_
  refine Then_normal ?_
  refine wp_cutK 1005 (fun Δ LL => ∃ (mo : Int), (mo = (if 0 > most then 0 else most) ∧ 0 ≤ mo ∧ mo ≤ 9223372036854775807) ∧ Δ = [(1, .int .i64 mo)] ∧ LL = [rq pr (.slice p b.length c) (r.get 4).1, V]) (Has.cons (k := 0) rfl (Has.cons (k := 5) rfl (Has.cons (k := 6) rfl (Has.nil _)))) ?_ ?_
  · refine wp_seq' ?_
    refine wp_region' ?_
    refine ops_ro' rfl (ro_move rfl) rfl ?_
    refine ops_ro' rfl (ro_lss rfl rfl rfl) rfl ?_
    refine ops_nil ?_
    refine Then_normal ?_
    refine wp_cond' rfl (fun hc14 => ?_) (fun hc14 => ?_)
    · replace hc14 := of_decide_eq_true hc14
      refine wp_region' ?_
      refine ops_ro' rfl (ro_assign rfl) rfl ?_
      refine ops_nil ?_
      refine Then_normal ?_
      refine over_cut (kept ⟨0, ⟨(if_pos (by omega)).symm, by omega, by omega⟩, rfl, rfl⟩ ?_ ?_ ?_)
      · exact (by repeat (first | exact Has.nil _ | refine Has.cons rfl ?_))
      · exact (by repeat (first | exact Has.nil _ | refine Has.cons rfl ?_))
      · exact SubH.refl _
    · replace hc14 := of_decide_eq_false hc14
      refine wp_skip' ?_
      refine Then_normal ?_
      refine over_cut (kept ⟨most, ⟨(if_neg (by omega)).symm, by omega, by omega⟩, rfl, rfl⟩ ?_ ?_ ?_)
      · exact (by repeat (first | exact Has.nil _ | refine Has.cons rfl ?_))
      · exact (by repeat (first | exact Has.nil _ | refine Has.cons rfl ?_))
      · exact SubH.refl _
  · rintro Δ LL ⟨mo, ⟨hmo, hm0, hm1⟩, rfl, rfl⟩
    simp only [List.cons_append, List.nil_append]
    refine wp_seq' ?_
    refine wp_seq' ?_
    refine wp_region' ?_
    refine ops_ro' rfl (ro_move rfl) rfl ?_
    refine ops_ro' rfl (ro_nilCheck rfl) rfl ?_
    refine ops_ro' rfl (ro_fieldAddr fa60_2 rfl) rfl ?_
    refine ops_ro' rfl (ro_load sc4 rfl (Rd.pick 0 rfl (Rd.own rfl))) rfl ?_
    refine ops_ro' rfl (ro_not rfl rfl) rfl ?_
    refine ops_split rfl rfl rfl (fun hg20 => ?_) (fun hg20 => ?_)
    · simp only [Bool.and_eq_true, decide_eq_true_eq, Bool.not_eq_true', decide_eq_false_iff_not, bne_iff_ne, ne_eq] at hg20
      replace hg20 : (r.get 4).1.why = 0 := by simpa using hg20
      refine ops_ro' rfl (ro_move rfl) rfl ?_
      refine ops_ro' rfl (ro_conv Tryd.underlying44 Tryd.underlying38 rfl (wrap_u64_in (by omega) (by omega))) rfl ?_
      refine ops_ro' rfl (ro_move rfl) rfl ?_
      refine ops_ro' rfl (ro_conv Tryd.underlying3 Tryd.underlying38 rfl (wrap_u64_in (by omega) (by omega))) rfl ?_
      refine ops_ro' rfl (ro_gtr rfl rfl rfl) rfl ?_
      refine ops_ro' rfl (ro_pick rfl rfl) rfl ?_
      refine ops_nil ?_
      refine Then_normal ?_
      refine wp_cond' rfl (fun hc26 => ?_) (fun hc26 => ?_)
      · replace hc26 := of_decide_eq_true hc26
        refine wp_seq' ?_
        refine wp_region' ?_
        refine ops_ro' rfl (ro_move rfl) rfl ?_
        refine ops_ro' rfl (ro_move rfl) rfl ?_
        refine ops_eff' rfl (eff_call Tryd.call80 rfl rfl (by repeat (first | exact Split.nil _ | apply Split.cons 0 rfl | apply Split.cons 1 rfl | apply Split.cons 2 rfl | apply Split.cons 3 rfl | apply Split.cons 4 rfl | apply Split.cons 5 rfl | apply Split.cons 6 rfl | apply Split.cons 7 rfl | apply Split.cons 8 rfl | apply Split.cons 9 rfl | apply Split.cons 10 rfl | apply Split.cons 11 rfl)) (rrefuse_spec pr _ (r.get 4).1 3 r.pos (by decide))) rfl ?_
        rintro _ H' ⟨_, ⟨rfl, rfl⟩, hH⟩
        simp only [List.cons_append, List.nil_append, List.eraseIdx_cons_zero, List.eraseIdx_cons_succ, List.set_cons_zero, List.set_cons_succ] at hH
        subst hH
        refine ops_nil ?_
        refine Then_normal ?_
        refine wp_seq' ?_
        refine wp_region' ?_
        refine ops_ro' rfl (ro_assign rfl) rfl ?_
        refine ops_nil ?_
        refine Then_normal ?_
        refine wp_ret' ?_
        refine Then_ret ?_
        refine' doneS_ret (res1 rfl rfl) ?_ ?_
        rotate_left 1
        exact ⟨_, ⟨by rw [text_long (by assumption) (by rw [← hmo]; omega)]; exact rfl, rfl⟩, by rw [text_long (by assumption) (by rw [← hmo]; omega)]⟩
        exact SubH.refl _
      · replace hc26 := of_decide_eq_false hc26
        refine wp_skip' ?_
        refine Then_normal ?_
        refine wp_seq' ?_
        refine wp_region' ?_
        refine ops_ro' rfl (ro_move rfl) rfl ?_
        refine ops_ro' rfl (ro_move rfl) rfl ?_
        refine ops_ro' rfl (ro_conv Tryd.underlying44 Tryd.underlying3 rfl (wrap_natN (by omega))) rfl ?_
        refine ops_eff' rfl (eff_callM (Pre := [_]) Tryd.call60 rfl rfl (by repeat (first | exact Split.nil _ | apply Split.cons 0 rfl | apply Split.cons 1 rfl | apply Split.cons 2 rfl | apply Split.cons 3 rfl | apply Split.cons 4 rfl | apply Split.cons 5 rfl | apply Split.cons 6 rfl | apply Split.cons 7 rfl | apply Split.cons 8 rfl | apply Split.cons 9 rfl | apply Split.cons 10 rfl | apply Split.cons 11 rfl)) (qRaw pr p c b (r.get 4).1 ⟨Vw.pick 0 rfl hi.vw, hi.cap, hi.len⟩ h4 ((r.get 4).2 : Nat))) rfl ?_
        rintro _ H' ⟨_, ⟨A, ⟨p', c', rfl, hs, rfl⟩, rfl⟩, hH⟩
        simp only [List.cons_append, List.nil_append, List.eraseIdx_cons_zero, List.eraseIdx_cons_succ, List.set_cons_zero, List.set_cons_succ] at hH
        subst hH
        refine ops_ro' rfl (ro_toStr Tryd.underlying28 Tryd.underlying5 Tryd.underlying9 rfl (Vw.pick 0 rfl Vw.row) rfl) rfl ?_
        refine ops_ro' rfl (ro_assign rfl) rfl ?_
        refine ops_nil ?_
        refine Then_normal ?_
        refine wp_ret' ?_
        have hx : r.text most = (r.get 4).1.take ((r.get 4).2 : Nat) := text_ok (by first | exact .inl (by assumption) | exact .inr (by rw [← hmo]; omega))
        refine' doneS_ret (res1 rfl rfl) ?_ ?_
        rotate_left 1
        exact ⟨_, ⟨by rw [hx], rfl⟩, by rw [hx]; first | done | exact rfl⟩
        exact (SubH.cons 1 rfl (SubH.cons 1 rfl (SubH.nil _)))
    · simp only [Bool.and_eq_false_iff, decide_eq_false_iff_not, Bool.not_eq_false', decide_eq_true_eq] at hg20
      replace hg20 : (r.get 4).1.why ≠ 0 := by simpa using hg20
      refine ops_skip' rfl rfl ?_
      refine ops_skip' rfl rfl ?_
      refine ops_skip' rfl rfl ?_
      refine ops_skip' rfl rfl ?_
      refine ops_skip' rfl rfl ?_
      refine ops_ro' rfl (ro_pick rfl rfl) rfl ?_
      refine ops_nil ?_
      refine Then_normal ?_
      refine wp_condF rfl ?_
      refine wp_skip' ?_
      refine Then_normal ?_
      refine wp_seq' ?_
      refine wp_region' ?_
      refine ops_ro' rfl (ro_move rfl) rfl ?_
      refine ops_ro' rfl (ro_move rfl) rfl ?_
      refine ops_ro' rfl (ro_conv Tryd.underlying44 Tryd.underlying3 rfl (wrap_natN (by omega))) rfl ?_
      refine ops_eff' rfl (eff_callM (Pre := [_]) Tryd.call60 rfl rfl (by repeat (first | exact Split.nil _ | apply Split.cons 0 rfl | apply Split.cons 1 rfl | apply Split.cons 2 rfl | apply Split.cons 3 rfl | apply Split.cons 4 rfl | apply Split.cons 5 rfl | apply Split.cons 6 rfl | apply Split.cons 7 rfl | apply Split.cons 8 rfl | apply Split.cons 9 rfl | apply Split.cons 10 rfl | apply Split.cons 11 rfl)) (qRaw pr p c b (r.get 4).1 ⟨Vw.pick 0 rfl hi.vw, hi.cap, hi.len⟩ h4 ((r.get 4).2 : Nat))) rfl ?_
      rintro _ H' ⟨_, ⟨A, ⟨p', c', rfl, hs, rfl⟩, rfl⟩, hH⟩
      simp only [List.cons_append, List.nil_append, List.eraseIdx_cons_zero, List.eraseIdx_cons_succ, List.set_cons_zero, List.set_cons_succ] at hH
      subst hH
      refine ops_ro' rfl (ro_toStr Tryd.underlying28 Tryd.underlying5 Tryd.underlying9 rfl (Vw.pick 0 rfl Vw.row) rfl) rfl ?_
      refine ops_ro' rfl (ro_assign rfl) rfl ?_
      refine ops_nil ?_
      refine Then_normal ?_
      refine wp_ret' ?_
      have hx : r.text most = (r.get 4).1.take ((r.get 4).2 : Nat) := text_ok (by first | exact .inl (by assumption) | exact .inr (by rw [← hmo]; omega))
      refine' doneS_ret (res1 rfl rfl) ?_ ?_
      rotate_left 1
      exact ⟨_, ⟨by rw [hx], rfl⟩, by rw [hx]; first | done | exact rfl⟩
      exact (SubH.cons 1 rfl (SubH.cons 1 rfl (SubH.nil _)))


theorem qLeft {V : HProp} (pr : Nat) (p : Option Addr) (c : Nat) (b : List UInt8) (r : R) (hi : Rin V p c b) (hr : r.On b) : Tri Tryd.prog 65 [.pointer (some ⟨pr, 0, none⟩)] ([rq pr (.slice p b.length c) r] ++ [V]) (fun v H' => ∃ K, (v = .int .i64 r.left ∧ K = [rq pr (.slice p b.length c) r]) ∧ H' = K ++ [V]) := by
  refine tri_of_wpS Tryd.func65 rfl Tryd.ntmps65 (by simp) ?_
  refine wp_seq' ?_
  refine wp_region' ?_
  refine ops_ro' rfl (ro_assign rfl) rfl ?_
  refine ops_nil ?_
  refine Then_normal ?_
  refine wp_seq' ?_
  refine wp_seq' ?_
  refine wp_region' ?_
  refine ops_ro' rfl (ro_move rfl) rfl ?_
  refine ops_ro' rfl (ro_nilCheck rfl) rfl ?_
  refine ops_ro' rfl (ro_fieldAddr fa60_2 rfl) rfl ?_
  refine ops_ro' rfl (ro_load sc4 rfl (Rd.pick 0 rfl (Rd.own rfl))) rfl ?_
  refine ops_nil ?_
  refine Then_normal ?_
  refine wp_cond' rfl (fun hc6 => ?_) (fun hc6 => ?_)
  · replace hc6 := of_decide_eq_true hc6
    refine wp_seq' ?_
    refine wp_region' ?_
    refine ops_ro' rfl (ro_assign rfl) rfl ?_
    refine ops_nil ?_
    refine Then_normal ?_
    refine wp_ret' ?_
    refine Then_ret ?_
    refine' doneS_ret (res1 rfl rfl) ?_ ?_
    rotate_left 1
    exact ⟨_, ⟨by rw [R.left, if_neg hc6], rfl⟩, rfl⟩
    exact SubH.refl _
  · replace hc6 := of_decide_eq_false hc6
    replace hc6 : r.why = 0 := by simpa using hc6
    refine wp_skip' ?_
    refine Then_normal ?_
    refine wp_seq' ?_
    refine wp_draw 10 (by kernel_rfl) (Split.cons 0 rfl (Split.nil _)) ?_
    refine any_ro' (i := 0) (by kernel_rfl) rfl rfl (ro_move rfl) rfl (fun _ _ _ h => h) ?_
    refine any_ro' (i := 1) (by kernel_rfl) rfl rfl (ro_nilCheck rfl) rfl (fun _ _ _ h => h) ?_
    refine any_ro' (i := 2) (by kernel_rfl) rfl rfl (ro_fieldAddr fa60_0 rfl) rfl (fun _ _ _ h => h) ?_
    refine any_ro' (i := 3) (by kernel_rfl) rfl rfl (ro_load sc28 rfl (Rd.pick 0 rfl (Rd.own rfl))) rfl (fun _ _ _ h => h) ?_
    refine any_ro' (i := 4) (by kernel_rfl) rfl rfl (ro_sliceLen Tryd.underlying28 rfl) rfl (fun _ _ _ h => h) ?_
    refine any_ro' (i := 5) (by kernel_rfl) rfl rfl (ro_move rfl) rfl (fun _ _ _ h => h) ?_
    refine any_ro' (i := 6) (by kernel_rfl) rfl rfl (ro_nilCheck rfl) rfl (fun _ _ _ h => h) ?_
    refine any_ro' (i := 7) (by kernel_rfl) rfl rfl (ro_fieldAddr fa60_1 rfl) rfl (fun _ _ _ h => h) ?_
    refine any_ro' (i := 8) (by kernel_rfl) rfl rfl (ro_load sc3 rfl (Rd.pick 0 rfl (Rd.own rfl))) rfl (fun _ _ _ h => h) ?_
    refine any_ro' (i := 9) (by kernel_rfl) rfl rfl (ro_sub rfl rfl (wrap_i64_in (by have := hi.len; have := hr.pos; omega) (by have := hi.len; have := hr.pos; omega))) rfl (fun _ _ _ h => h) ?_
    refine any_unlock (m' := 11) (L' := []) (by kernel_rfl) unlock ?_
    simp only [List.cons_append, List.nil_append, List.append_nil]
    refine any_ro' (i := 10) (by kernel_rfl) rfl rfl (ro_assign rfl) rfl (fun _ _ _ h => h) ?_
    refine any_doneH (by kernel_rfl) ?_
    refine Then_normal ?_
    refine wp_ret' ?_
    refine' doneS_ret (res1 rfl rfl) ?_ ?_
    rotate_left 1
    exact ⟨_, ⟨by rw [R.left, if_pos hc6, hr.hb], rfl⟩, rfl⟩
    exact SubH.refl _


theorem qRest {V : HProp} (pr : Nat) (p : Option Addr) (c : Nat) (b : List UInt8) (r : R) (hi : Rin V p c b) (hr : r.On b) : Tri Tryd.prog 62 [.pointer (some ⟨pr, 0, none⟩)] ([rq pr (.slice p b.length c) r] ++ [V]) (fun v H' => ∃ K, (∃ A, Out v (r.take r.left).2 A ∧ K = [A, rq pr (.slice p b.length c) (r.take r.left).1]) ∧ H' = K ++ [V]) := by
  refine tri_of_wpS Tryd.func62 rfl Tryd.ntmps62 (by simp) ?_
  refine wp_seq' ?_
  refine wp_region' ?_
  refine ops_ro' rfl (ro_assign rfl) rfl ?_
  refine ops_nil ?_
  refine Then_normal ?_
  refine wp_seq' ?_
  refine wp_seq' ?_
  refine wp_region' ?_
  refine ops_ro' rfl (ro_move rfl) rfl ?_
  refine ops_ro' rfl (ro_nilCheck rfl) rfl ?_
  refine ops_ro' rfl (ro_fieldAddr fa60_2 rfl) rfl ?_
  refine ops_ro' rfl (ro_load sc4 rfl (Rd.pick 0 rfl (Rd.own rfl))) rfl ?_
  refine ops_nil ?_
  refine Then_normal ?_
  refine wp_cond' rfl (fun hc6 => ?_) (fun hc6 => ?_)
  · replace hc6 := of_decide_eq_true hc6
    refine wp_seq' ?_
    have hx : r.take r.left = (r, []) := by unfold R.take; rw [if_pos hc6]
    refine wp_region' ?_
    refine ops_ro' rfl (ro_assign rfl) rfl ?_
    refine ops_nil ?_
    refine Then_normal ?_
    refine wp_ret' ?_
    refine Then_ret ?_
    refine' doneS_ret (res1 rfl rfl) ?_ ?_
    rotate_left 1
    exact ⟨_, ⟨_, ⟨none, 0, by rw [hx]; first | done | exact rfl, .inl ⟨rfl, by rw [hx]⟩, by rw [hx]; first | done | exact rfl⟩, by rw [hx]⟩, rfl⟩
    exact (SubH.rown (SubH.cons 0 rfl (SubH.cons 0 rfl (SubH.nil _))))
  · replace hc6 := of_decide_eq_false hc6
    replace hc6 : r.why = 0 := by simpa using hc6
    refine wp_skip' ?_
    refine Then_normal ?_
    refine wp_seq' ?_
    refine wp_draw 11 (by kernel_rfl) (Split.cons 0 rfl (Split.nil _)) ?_
    refine any_ro' (i := 0) (by kernel_rfl) rfl rfl (ro_move rfl) rfl (fun _ _ _ h => h) ?_
    refine any_ro' (i := 1) (by kernel_rfl) rfl rfl (ro_move rfl) rfl (fun _ _ _ h => h) ?_
    refine any_ro' (i := 2) (by kernel_rfl) rfl rfl (ro_nilCheck rfl) rfl (fun _ _ _ h => h) ?_
    refine any_ro' (i := 3) (by kernel_rfl) rfl rfl (ro_fieldAddr fa60_0 rfl) rfl (fun _ _ _ h => h) ?_
    refine any_ro' (i := 4) (by kernel_rfl) rfl rfl (ro_load sc28 rfl (Rd.pick 0 rfl (Rd.own rfl))) rfl (fun _ _ _ h => h) ?_
    refine any_ro' (i := 5) (by kernel_rfl) rfl rfl (ro_sliceLen Tryd.underlying28 rfl) rfl (fun _ _ _ h => h) ?_
    refine any_ro' (i := 6) (by kernel_rfl) rfl rfl (ro_move rfl) rfl (fun _ _ _ h => h) ?_
    refine any_ro' (i := 7) (by kernel_rfl) rfl rfl (ro_nilCheck rfl) rfl (fun _ _ _ h => h) ?_
    refine any_ro' (i := 8) (by kernel_rfl) rfl rfl (ro_fieldAddr fa60_1 rfl) rfl (fun _ _ _ h => h) ?_
    refine any_ro' (i := 9) (by kernel_rfl) rfl rfl (ro_load sc3 rfl (Rd.pick 0 rfl (Rd.own rfl))) rfl (fun _ _ _ h => h) ?_
    refine any_ro' (i := 10) (by kernel_rfl) rfl rfl (ro_sub rfl rfl (wrap_i64_in (by have := hi.len; have := hr.pos; omega) (by have := hi.len; have := hr.pos; omega))) rfl (fun _ _ _ h => h) ?_
    refine any_unlock (m' := 13) (L' := []) (by kernel_rfl) unlock ?_
    simp only [List.cons_append, List.nil_append, List.append_nil]
    have hx : ((b.length : Nat) : Int) - r.pos = r.left := by rw [R.left, if_pos hc6, hr.hb]
    rw [hx]
    refine any_eff' (i := 11) (by kernel_rfl) rfl rfl (eff_callM (Pre := [_]) Tryd.call60 rfl rfl (by repeat (first | exact Split.nil _ | apply Split.cons 0 rfl | apply Split.cons 1 rfl | apply Split.cons 2 rfl | apply Split.cons 3 rfl | apply Split.cons 4 rfl | apply Split.cons 5 rfl | apply Split.cons 6 rfl | apply Split.cons 7 rfl | apply Split.cons 8 rfl | apply Split.cons 9 rfl | apply Split.cons 10 rfl | apply Split.cons 11 rfl)) (qRaw pr p c b r ⟨Vw.pick 0 rfl hi.vw, hi.cap, hi.len⟩ hr r.left)) rfl ?_
    rintro _ H' ⟨_, ⟨A, ⟨p', c', rfl, hs, rfl⟩, rfl⟩, hH⟩
    simp only [List.cons_append, List.nil_append, List.eraseIdx_cons_zero, List.eraseIdx_cons_succ, List.set_cons_zero, List.set_cons_succ] at hH
    subst hH
    refine any_ro' (i := 12) (by kernel_rfl) rfl rfl (ro_assign rfl) rfl (fun _ _ _ h => h) ?_
    refine any_doneH (by kernel_rfl) ?_
    refine Then_normal ?_
    refine wp_ret' ?_
    refine' doneS_ret (res1 rfl rfl) ?_ ?_
    rotate_left 1
    exact ⟨_, ⟨_, ⟨p', c', rfl, hs, rfl⟩, rfl⟩, rfl⟩
    exact SubH.refl _


theorem qMpint {V : HProp} (pr : Nat) (p : Option Addr) (c : Nat) (b : List UInt8) (r : R) (hi : Rin V p c b) (hr : r.On b) (most : Int) (hm : -9223372036854775808 ≤ most ∧ most ≤ 9223372036854775807) : Tri Tryd.prog 58 [.pointer (some ⟨pr, 0, none⟩), .int .i64 most] ([rq pr (.slice p b.length c) r] ++ [V])
    (fun v H' => ∃ K, (∃ p' c', v = .slice p' (r.mp most).2.length c' ∧ K = [row 5 1 (.slice p' (r.mp most).2.length c') (r.mp most).2.length (cel (r.mp most).2), rq pr (.slice p b.length c) (r.mp most).1]) ∧ H' = K ++ [V]) := by
  refine tri_of_wpS Tryd.func58 rfl Tryd.ntmps58 (by simp) ?_
  refine wp_seq' ?_
  refine wp_region' ?_
  refine ops_ro' rfl (ro_assign rfl) rfl ?_
  refine ops_nil ?_
  refine Then_normal ?_
  refine wp_seq' ?_
  refine wp_region' ?_
  refine ops_ro' rfl (ro_move rfl) rfl ?_
  refine ops_ro' rfl (ro_nilCheck rfl) rfl ?_
  refine ops_ro' rfl (ro_fieldAddr fa60_1 rfl) rfl ?_
  refine ops_ro' rfl (ro_load sc3 rfl (Rd.pick 0 rfl (Rd.own rfl))) rfl ?_
  refine ops_ro' rfl (ro_assign rfl) rfl ?_
  refine ops_nil ?_
  refine Then_normal ?_
  refine wp_seq' ?_
  refine wp_region' ?_
  refine ops_ro' rfl (ro_move rfl) rfl ?_
  refine ops_ro' rfl (ro_move rfl) rfl ?_
  refine ops_eff' rfl (eff_callM (Pre := [_]) Tryd.call57 rfl rfl (by repeat (first | exact Split.nil _ | apply Split.cons 0 rfl | apply Split.cons 1 rfl | apply Split.cons 2 rfl | apply Split.cons 3 rfl | apply Split.cons 4 rfl | apply Split.cons 5 rfl | apply Split.cons 6 rfl | apply Split.cons 7 rfl | apply Split.cons 8 rfl | apply Split.cons 9 rfl | apply Split.cons 10 rfl | apply Split.cons 11 rfl)) (qText pr p c b r ⟨Vw.pick 0 rfl hi.vw, hi.cap, hi.len⟩ hr most hm)) rfl ?_
  rintro _ H' ⟨_, ⟨rfl, rfl⟩, hH⟩
  simp only [List.cons_append, List.nil_append, List.eraseIdx_cons_zero, List.eraseIdx_cons_succ, List.set_cons_zero, List.set_cons_succ] at hH
  subst hH
  have hg1 := R.on_text hr most
  have hln := R.text_len r most
  have hbd := fun h => text_bad (r := r) (n := most) h
  generalize et : r.text most = t at *
  obtain ⟨q, s⟩ := t
  simp only at *
  refine ops_eff' rfl (eff_toBytesS Tryd.underlying9 Tryd.underlying28 Tryd.underlying5 rfl (by simp only [maxLen]; omega)) rfl ?_
  rintro _ _ ⟨b14, c14, rfl, rfl⟩
  refine ops_ro' rfl (ro_assign rfl) rfl ?_
  refine ops_nil ?_
  refine Then_normal ?_
  refine wp_seq' ?_
  refine wp_seq' ?_
  refine wp_region' ?_
  refine ops_ro' rfl (ro_move rfl) rfl ?_
  refine ops_ro' rfl (ro_sliceLen Tryd.underlying28 rfl) rfl ?_
  refine ops_ro' rfl (ro_gtr rfl rfl rfl) rfl ?_
  refine ops_split rfl rfl rfl (fun hg18 => ?_) (fun hg18 => ?_)
  · replace hg18 := of_decide_eq_true hg18
    obtain ⟨d, l, rfl⟩ : ∃ d l, s = d :: l := by
      cases s with
      | nil => simp at hg18
      | cons d l => exact ⟨d, l, rfl⟩
    have hb := UInt8.toNat_lt d
    have hq : q.why = 0 := Classical.byContradiction fun h => by simpa using hbd h
    have hlen : (d :: l).length = l.length + 1 := rfl
    refine ops_know (fun w F s => row_ptr' 0 rfl s (by omega)) ?_
    rintro ⟨bx, hbx⟩
    refine ops_ro' rfl (ro_move rfl) rfl ?_
    refine ops_ro' rfl (ro_indexSlice sl28 rfl rfl rfl (by dsimp only; omega)) rfl ?_
    refine ops_ro' rfl (ro_load sc5 rfl (Rd.pick 0 rfl (Rd.row (show (cel (d :: l))[0]? = some (.int .u8 (d.toNat : Int)) from rfl)))) rfl ?_
    refine ops_ro' rfl (ro_geq rfl rfl rfl) rfl ?_
    refine ops_split rfl rfl rfl (fun hg23 => ?_) (fun hg23 => ?_)
    · replace hg23 := of_decide_eq_true hg23
      refine ops_skip' rfl rfl ?_
      refine ops_skip' rfl rfl ?_
      refine ops_skip' rfl rfl ?_
      refine ops_skip' rfl rfl ?_
      refine ops_skip' rfl rfl ?_
      refine ops_skip' rfl rfl ?_
      refine ops_skip' rfl rfl ?_
      refine ops_skip' rfl rfl ?_
      refine ops_skip' rfl rfl ?_
      refine ops_skip' rfl rfl ?_
      refine ops_skip' rfl rfl ?_
      refine ops_skip' rfl rfl ?_
      refine ops_skip' rfl rfl ?_
      refine ops_skip' rfl rfl ?_
      refine ops_skip' rfl rfl ?_
      refine ops_ro' rfl (ro_pick rfl rfl) rfl ?_
      refine ops_ro' rfl (ro_pick rfl rfl) rfl ?_
      refine ops_nil ?_
      refine Then_normal ?_
      refine wp_condT rfl ?_
      refine wp_seq' ?_
      have hbad : badN (r.text most).2 = true := by
        rw [et]
        show badN (_ :: _) = true
        rw [badN_cons]
        simp only [Bool.or_eq_true, Bool.and_eq_true, decide_eq_true_eq, List.headD_cons]
        first | omega | exact .inr ⟨by omega, .inr (decide_eq_true (by omega))⟩
      have hmp : r.mp most = (q.refuse 12 r.pos, []) := by
        rw [et] at hbad
        exact R.mp_bad et hq (by simp) hbad
      refine wp_region' ?_
      refine ops_ro' rfl (ro_move rfl) rfl ?_
      refine ops_ro' rfl (ro_move rfl) rfl ?_
      refine ops_eff' rfl (eff_call Tryd.call80 rfl rfl (by repeat (first | exact Split.nil _ | apply Split.cons 0 rfl | apply Split.cons 1 rfl | apply Split.cons 2 rfl | apply Split.cons 3 rfl | apply Split.cons 4 rfl | apply Split.cons 5 rfl | apply Split.cons 6 rfl | apply Split.cons 7 rfl | apply Split.cons 8 rfl | apply Split.cons 9 rfl | apply Split.cons 10 rfl | apply Split.cons 11 rfl)) (rrefuse_spec pr _ q 12 r.pos (by decide))) rfl ?_
      rintro _ H' ⟨_, ⟨rfl, rfl⟩, hH⟩
      simp only [List.cons_append, List.nil_append, List.eraseIdx_cons_zero, List.eraseIdx_cons_succ, List.set_cons_zero, List.set_cons_succ] at hH
      subst hH
      refine ops_nil ?_
      refine Then_normal ?_
      refine wp_seq' ?_
      refine wp_region' ?_
      refine ops_ro' rfl (ro_assign rfl) rfl ?_
      refine ops_nil ?_
      refine Then_normal ?_
      refine wp_ret' ?_
      refine Then_ret ?_
      refine' doneS_ret (res1 rfl rfl) ?_ ?_
      rotate_left 1
      exact ⟨_, ⟨none, 0, by rw [hmp]; rfl, by rw [hmp]⟩, rfl⟩
      exact (SubH.rown (SubH.cons 0 rfl (SubH.cons 1 rfl (SubH.nil _))))
    · replace hg23 := of_decide_eq_false hg23
      refine ops_ro' rfl (ro_move rfl) rfl ?_
      refine ops_ro' rfl (ro_indexSlice sl28 rfl rfl rfl (by dsimp only; omega)) rfl ?_
      refine ops_ro' rfl (ro_load sc5 rfl (Rd.pick 0 rfl (Rd.row (show (cel (d :: l))[0]? = some (.int .u8 (d.toNat : Int)) from rfl)))) rfl ?_
      refine ops_ro' rfl (ro_eql rfl rfl rfl) rfl ?_
      refine ops_split rfl rfl rfl (fun hg28 => ?_) (fun hg28 => ?_)
      · replace hg28 := of_decide_eq_true hg28
        refine ops_ro' rfl (ro_move rfl) rfl ?_
        refine ops_ro' rfl (ro_sliceLen Tryd.underlying28 rfl) rfl ?_
        refine ops_ro' rfl (ro_eql rfl rfl rfl) rfl ?_
        refine ops_split rfl rfl rfl (fun hg32 => ?_) (fun hg32 => ?_)
        · replace hg32 := of_decide_eq_true hg32
          refine ops_skip' rfl rfl ?_
          refine ops_skip' rfl rfl ?_
          refine ops_skip' rfl rfl ?_
          refine ops_skip' rfl rfl ?_
          refine ops_ro' rfl (ro_pick rfl rfl) rfl ?_
          refine ops_ro' rfl (ro_pick rfl rfl) rfl ?_
          refine ops_ro' rfl (ro_pick rfl rfl) rfl ?_
          refine ops_ro' rfl (ro_pick rfl rfl) rfl ?_
          refine ops_nil ?_
          refine Then_normal ?_
          refine wp_condT rfl ?_
          refine wp_seq' ?_
          have hbad : badN (r.text most).2 = true := by
            rw [et]
            show badN (_ :: _) = true
            rw [badN_cons]
            simp only [Bool.or_eq_true, Bool.and_eq_true, decide_eq_true_eq, List.headD_cons]
            first | omega | exact .inr ⟨by omega, .inr (decide_eq_true (by omega))⟩
          have hmp : r.mp most = (q.refuse 12 r.pos, []) := by
            rw [et] at hbad
            exact R.mp_bad et hq (by simp) hbad
          refine wp_region' ?_
          refine ops_ro' rfl (ro_move rfl) rfl ?_
          refine ops_ro' rfl (ro_move rfl) rfl ?_
          refine ops_eff' rfl (eff_call Tryd.call80 rfl rfl (by repeat (first | exact Split.nil _ | apply Split.cons 0 rfl | apply Split.cons 1 rfl | apply Split.cons 2 rfl | apply Split.cons 3 rfl | apply Split.cons 4 rfl | apply Split.cons 5 rfl | apply Split.cons 6 rfl | apply Split.cons 7 rfl | apply Split.cons 8 rfl | apply Split.cons 9 rfl | apply Split.cons 10 rfl | apply Split.cons 11 rfl)) (rrefuse_spec pr _ q 12 r.pos (by decide))) rfl ?_
          rintro _ H' ⟨_, ⟨rfl, rfl⟩, hH⟩
          simp only [List.cons_append, List.nil_append, List.eraseIdx_cons_zero, List.eraseIdx_cons_succ, List.set_cons_zero, List.set_cons_succ] at hH
          subst hH
          refine ops_nil ?_
          refine Then_normal ?_
          refine wp_seq' ?_
          refine wp_region' ?_
          refine ops_ro' rfl (ro_assign rfl) rfl ?_
          refine ops_nil ?_
          refine Then_normal ?_
          refine wp_ret' ?_
          refine Then_ret ?_
          refine' doneS_ret (res1 rfl rfl) ?_ ?_
          rotate_left 1
          exact ⟨_, ⟨none, 0, by rw [hmp]; rfl, by rw [hmp]⟩, rfl⟩
          exact (SubH.rown (SubH.cons 0 rfl (SubH.cons 1 rfl (SubH.nil _))))
        · replace hg32 := of_decide_eq_false hg32
          obtain ⟨e, t, rfl⟩ : ∃ e t, l = e :: t := by
            cases l with
            | nil => simp at hg32
            | cons e t => exact ⟨e, t, rfl⟩
          refine ops_ro' rfl (ro_move rfl) rfl ?_
          refine ops_ro' rfl (ro_indexSlice sl28 rfl rfl rfl (by dsimp only; omega)) rfl ?_
          refine ops_ro' rfl (ro_load sc5 rfl (Rd.pick 0 rfl (Rd.row (show (cel (d :: e :: t))[1]? = some (.int .u8 (e.toNat : Int)) from rfl)))) rfl ?_
          refine ops_ro' rfl (ro_lss rfl rfl rfl) rfl ?_
          refine ops_ro' rfl (ro_pick rfl rfl) rfl ?_
          refine ops_ro' rfl (ro_pick rfl rfl) rfl ?_
          refine ops_ro' rfl (ro_pick rfl rfl) rfl ?_
          refine ops_ro' rfl (ro_pick rfl rfl) rfl ?_
          refine ops_nil ?_
          refine Then_normal ?_
          refine wp_cond' rfl (fun hc40 => ?_) (fun hc40 => ?_)
          · replace hc40 := of_decide_eq_true hc40
            refine wp_seq' ?_
            have hbad : badN (r.text most).2 = true := by
              rw [et]
              show badN (_ :: _) = true
              rw [badN_cons]
              simp only [Bool.or_eq_true, Bool.and_eq_true, decide_eq_true_eq, List.headD_cons]
              first | omega | exact .inr ⟨by omega, .inr (decide_eq_true (by omega))⟩
            have hmp : r.mp most = (q.refuse 12 r.pos, []) := by
              rw [et] at hbad
              exact R.mp_bad et hq (by simp) hbad
            refine wp_region' ?_
            refine ops_ro' rfl (ro_move rfl) rfl ?_
            refine ops_ro' rfl (ro_move rfl) rfl ?_
            refine ops_eff' rfl (eff_call Tryd.call80 rfl rfl (by repeat (first | exact Split.nil _ | apply Split.cons 0 rfl | apply Split.cons 1 rfl | apply Split.cons 2 rfl | apply Split.cons 3 rfl | apply Split.cons 4 rfl | apply Split.cons 5 rfl | apply Split.cons 6 rfl | apply Split.cons 7 rfl | apply Split.cons 8 rfl | apply Split.cons 9 rfl | apply Split.cons 10 rfl | apply Split.cons 11 rfl)) (rrefuse_spec pr _ q 12 r.pos (by decide))) rfl ?_
            rintro _ H' ⟨_, ⟨rfl, rfl⟩, hH⟩
            simp only [List.cons_append, List.nil_append, List.eraseIdx_cons_zero, List.eraseIdx_cons_succ, List.set_cons_zero, List.set_cons_succ] at hH
            subst hH
            refine ops_nil ?_
            refine Then_normal ?_
            refine wp_seq' ?_
            refine wp_region' ?_
            refine ops_ro' rfl (ro_assign rfl) rfl ?_
            refine ops_nil ?_
            refine Then_normal ?_
            refine wp_ret' ?_
            refine Then_ret ?_
            refine' doneS_ret (res1 rfl rfl) ?_ ?_
            rotate_left 1
            exact ⟨_, ⟨none, 0, by rw [hmp]; rfl, by rw [hmp]⟩, rfl⟩
            exact (SubH.rown (SubH.cons 0 rfl (SubH.cons 1 rfl (SubH.nil _))))
          · replace hc40 := of_decide_eq_false hc40
            refine wp_skip' ?_
            refine Then_normal ?_
            refine wp_seq' ?_
            have hmp : r.mp most = (q, bare (r.text most).2) := by
              first
                | (rw [R.mp_no et (.inr rfl), et]; rfl)
                | (have hgood : badN (r.text most).2 = false := by
                    rw [et]
                    show badN (_ :: _) = false
                    rw [badN_cons]
                    simp only [Bool.or_eq_false_iff, Bool.and_eq_false_iff, decide_eq_false_iff_not, List.headD_cons]
                    first | omega | exact ⟨by omega, .inr ⟨by omega, decide_eq_false (by omega)⟩⟩
                   rw [et] at hgood ⊢
                   exact R.mp_good et hq (by simp) hgood)
            rw [et] at hmp
            refine wp_know (fun w F s => row_caps 0 rfl s) ?_
            intro hcp
            refine wp_region' ?_
            refine ops_ro' rfl (ro_move rfl) rfl ?_
            refine ops_eff' rfl (eff_callM (Pre := []) Tryd.call81 rfl rfl (Split.nil _) (qwBare _ _ _ (by first | exact Vw.pick 0 rfl Vw.row | exact Vw.pick 1 rfl Vw.row | exact Vw.pick 2 rfl Vw.row | exact Vw.pick 3 rfl Vw.row | exact Vw.pick 4 rfl Vw.row | exact Vw.pick 5 rfl Vw.row | exact Vw.pick 6 rfl Vw.row | exact Vw.pick 7 rfl Vw.row | exact Vw.pick 8 rfl Vw.row | exact Vw.pick 9 rfl Vw.row | exact Vw.nil _ | exact Vw.empty _ _) (by omega) hcp)) rfl ?_
            rintro _ H' ⟨_, ⟨p45, c45, rfl, rfl⟩, hH⟩
            simp only [List.cons_append, List.nil_append, List.eraseIdx_cons_zero, List.eraseIdx_cons_succ, List.set_cons_zero, List.set_cons_succ] at hH
            subst hH
            refine ops_ro' rfl (ro_assign rfl) rfl ?_
            refine ops_nil ?_
            refine Then_normal ?_
            refine wp_ret' ?_
            refine' doneS_ret (res1 rfl rfl) ?_ ?_
            rotate_left 1
            exact ⟨_, ⟨p45, c45, by rw [hmp], by rw [hmp]⟩, rfl⟩
            exact (SubH.cons 0 rfl (SubH.cons 1 rfl (SubH.cons 1 rfl (SubH.nil _))))
      · replace hg28 := of_decide_eq_false hg28
        refine ops_skip' rfl rfl ?_
        refine ops_skip' rfl rfl ?_
        refine ops_skip' rfl rfl ?_
        refine ops_skip' rfl rfl ?_
        refine ops_skip' rfl rfl ?_
        refine ops_skip' rfl rfl ?_
        refine ops_skip' rfl rfl ?_
        refine ops_skip' rfl rfl ?_
        refine ops_skip' rfl rfl ?_
        refine ops_ro' rfl (ro_pick rfl rfl) rfl ?_
        refine ops_ro' rfl (ro_pick rfl rfl) rfl ?_
        refine ops_ro' rfl (ro_pick rfl rfl) rfl ?_
        refine ops_nil ?_
        refine Then_normal ?_
        refine wp_condF rfl ?_
        refine wp_skip' ?_
        refine Then_normal ?_
        refine wp_seq' ?_
        have hmp : r.mp most = (q, bare (r.text most).2) := by
          first
            | (rw [R.mp_no et (.inr rfl), et]; rfl)
            | (have hgood : badN (r.text most).2 = false := by
                rw [et]
                show badN (_ :: _) = false
                rw [badN_cons]
                simp only [Bool.or_eq_false_iff, Bool.and_eq_false_iff, decide_eq_false_iff_not, List.headD_cons]
                first | omega | exact ⟨by omega, .inr ⟨by omega, decide_eq_false (by omega)⟩⟩
               rw [et] at hgood ⊢
               exact R.mp_good et hq (by simp) hgood)
        rw [et] at hmp
        refine wp_know (fun w F s => row_caps 0 rfl s) ?_
        intro hcp
        refine wp_region' ?_
        refine ops_ro' rfl (ro_move rfl) rfl ?_
        refine ops_eff' rfl (eff_callM (Pre := []) Tryd.call81 rfl rfl (Split.nil _) (qwBare _ _ _ (by first | exact Vw.pick 0 rfl Vw.row | exact Vw.pick 1 rfl Vw.row | exact Vw.pick 2 rfl Vw.row | exact Vw.pick 3 rfl Vw.row | exact Vw.pick 4 rfl Vw.row | exact Vw.pick 5 rfl Vw.row | exact Vw.pick 6 rfl Vw.row | exact Vw.pick 7 rfl Vw.row | exact Vw.pick 8 rfl Vw.row | exact Vw.pick 9 rfl Vw.row | exact Vw.nil _ | exact Vw.empty _ _) (by omega) hcp)) rfl ?_
        rintro _ H' ⟨_, ⟨p45, c45, rfl, rfl⟩, hH⟩
        simp only [List.cons_append, List.nil_append, List.eraseIdx_cons_zero, List.eraseIdx_cons_succ, List.set_cons_zero, List.set_cons_succ] at hH
        subst hH
        refine ops_ro' rfl (ro_assign rfl) rfl ?_
        refine ops_nil ?_
        refine Then_normal ?_
        refine wp_ret' ?_
        refine' doneS_ret (res1 rfl rfl) ?_ ?_
        rotate_left 1
        exact ⟨_, ⟨p45, c45, by rw [hmp], by rw [hmp]⟩, rfl⟩
        exact (SubH.cons 0 rfl (SubH.cons 1 rfl (SubH.cons 1 rfl (SubH.nil _))))
  · replace hg18 := of_decide_eq_false hg18
    obtain rfl : s = [] := List.eq_nil_of_length_eq_zero (by omega)
    refine ops_skip' rfl rfl ?_
    refine ops_skip' rfl rfl ?_
    refine ops_skip' rfl rfl ?_
    refine ops_skip' rfl rfl ?_
    refine ops_skip' rfl rfl ?_
    refine ops_skip' rfl rfl ?_
    refine ops_skip' rfl rfl ?_
    refine ops_skip' rfl rfl ?_
    refine ops_skip' rfl rfl ?_
    refine ops_skip' rfl rfl ?_
    refine ops_skip' rfl rfl ?_
    refine ops_skip' rfl rfl ?_
    refine ops_skip' rfl rfl ?_
    refine ops_skip' rfl rfl ?_
    refine ops_skip' rfl rfl ?_
    refine ops_skip' rfl rfl ?_
    refine ops_skip' rfl rfl ?_
    refine ops_skip' rfl rfl ?_
    refine ops_skip' rfl rfl ?_
    refine ops_skip' rfl rfl ?_
    refine ops_skip' rfl rfl ?_
    refine ops_ro' rfl (ro_pick rfl rfl) rfl ?_
    refine ops_nil ?_
    refine Then_normal ?_
    refine wp_condF rfl ?_
    refine wp_skip' ?_
    refine Then_normal ?_
    refine wp_seq' ?_
    have hmp : r.mp most = (q, bare (r.text most).2) := by
      first
        | (rw [R.mp_no et (.inr rfl), et]; rfl)
        | (have hgood : badN (r.text most).2 = false := by
            rw [et]
            show badN (_ :: _) = false
            rw [badN_cons]
            simp only [Bool.or_eq_false_iff, Bool.and_eq_false_iff, decide_eq_false_iff_not, List.headD_cons]
            first | omega | exact ⟨by omega, .inr ⟨by omega, decide_eq_false (by omega)⟩⟩
           rw [et] at hgood ⊢
           exact R.mp_good et hq (by simp) hgood)
    rw [et] at hmp
    refine wp_know (fun w F s => row_caps 0 rfl s) ?_
    intro hcp
    refine wp_region' ?_
    refine ops_ro' rfl (ro_move rfl) rfl ?_
    refine ops_eff' rfl (eff_callM (Pre := []) Tryd.call81 rfl rfl (Split.nil _) (qwBare _ _ _ (by first | exact Vw.pick 0 rfl Vw.row | exact Vw.pick 1 rfl Vw.row | exact Vw.pick 2 rfl Vw.row | exact Vw.pick 3 rfl Vw.row | exact Vw.pick 4 rfl Vw.row | exact Vw.pick 5 rfl Vw.row | exact Vw.pick 6 rfl Vw.row | exact Vw.pick 7 rfl Vw.row | exact Vw.pick 8 rfl Vw.row | exact Vw.pick 9 rfl Vw.row | exact Vw.nil _ | exact Vw.empty _ _) (by omega) hcp)) rfl ?_
    rintro _ H' ⟨_, ⟨p45, c45, rfl, rfl⟩, hH⟩
    simp only [List.cons_append, List.nil_append, List.eraseIdx_cons_zero, List.eraseIdx_cons_succ, List.set_cons_zero, List.set_cons_succ] at hH
    subst hH
    refine ops_ro' rfl (ro_assign rfl) rfl ?_
    refine ops_nil ?_
    refine Then_normal ?_
    refine wp_ret' ?_
    refine' doneS_ret (res1 rfl rfl) ?_ ?_
    rotate_left 1
    exact ⟨_, ⟨p45, c45, by rw [hmp], by rw [hmp]⟩, rfl⟩
    exact (SubH.cons 0 rfl (SubH.cons 1 rfl (SubH.cons 1 rfl (SubH.nil _))))

end Go.Proofs.YtbiohhfibkolgaaDoor
