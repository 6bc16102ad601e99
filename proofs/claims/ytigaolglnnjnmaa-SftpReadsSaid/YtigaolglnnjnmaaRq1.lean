/-
  The reader of package strongroomref1.
-/
import Derived.Test.YtigaolglnnjnmaaRefR
import Derived.Test.YtigaolglnnjnmaaRd1
import Derived.Test.YtigaolglnnjnmaaQw
namespace Go.Proofs.Ytigaolglnnjnmaa
open Go.Sx
set_option linter.unusedVariables false
set_option linter.unusedSimpArgs false
set_option maxRecDepth 100000
set_option maxHeartbeats 4000000

structure Rin (V : HProp) (p : Option Addr) (c : Nat) (b : List UInt8) : Prop where
  vw : Vw V (.slice p b.length c) b.length (cel b)
  cap : b.length ≤ c
  len : b.length ≤ 140737488355328
structure R.On (r : R) (b : List UInt8) : Prop where
  hb : r.b = b
  pos : r.pos ≤ b.length
theorem R.on_new (b : List UInt8) : (R.new b).On b := ⟨rfl, Nat.zero_le _⟩
theorem R.on_take {r : R} {b : List UInt8} (h : r.On b) (n : Int) : (r.take n).1.On b := ⟨by rw [take_b]; exact h.hb, by have := take_pos r n (by rw [h.hb]; exact h.pos); rwa [take_b, h.hb] at this⟩
theorem R.on_get {r : R} {b : List UInt8} (h : r.On b) (n : Nat) : (r.get n).1.On b := R.on_take h n
theorem R.on_refuse {r : R} {b : List UInt8} (h : r.On b) (w k : Int) : (r.refuse w k).On b := by unfold R.refuse; split; exact ⟨h.hb, h.pos⟩; exact h
theorem R.on_fail {r : R} {b : List UInt8} (h : r.On b) (w : Int) : (r.fail w).On b := by unfold R.fail; split; exact h; exact R.on_refuse h _ _
theorem R.on_text {r : R} {b : List UInt8} (h : r.On b) (n : Int) : (r.text n).1.On b := by
  unfold R.text
  refine R.on_take ?_ _
  generalize (if 0 > n then 0 else n) = z
  split
  · exact R.on_refuse (R.on_get h 4) _ _
  · exact R.on_get h 4
theorem text_long {r : R} {most : Int} (h : (r.get 4).1.why = 0) (hn : (if 0 > most then 0 else most) < ((r.get 4).2 : Int)) : r.text most = ((r.get 4).1.refuse 3 r.pos, []) := by
  unfold R.text; rw [if_pos hn]
  have h3 : ((r.get 4).1.refuse 3 r.pos).why ≠ 0 := by unfold R.refuse; rw [if_pos h]; exact (by decide : (3 : Int) ≠ 0)
  generalize (r.get 4).1.refuse 3 r.pos = q at *
  unfold R.take; rw [if_pos h3]
theorem text_ok {r : R} {most : Int} (h : (r.get 4).1.why ≠ 0 ∨ ¬ (if 0 > most then 0 else most) < ((r.get 4).2 : Int)) : r.text most = (r.get 4).1.take ((r.get 4).2 : Nat) := by
  unfold R.text
  generalize (if 0 > most then 0 else most) = z at *
  split
  · rename_i hn
    rw [show (r.get 4).1.refuse 3 r.pos = (r.get 4).1 from by unfold R.refuse; rw [if_neg (by rcases h with h | h; exact h; exact absurd hn h)]]
  · rfl
theorem qRaw {V : HProp} (pr : Nat) (p : Option Addr) (c : Nat) (b : List UInt8) (r : R) (hi : Rin V p c b) (hr : r.On b) (n : Int) :
    Tri Try.prog 111 [.pointer (some ⟨pr, 0, none⟩), .int .i64 n] ([rq pr (.slice p b.length c) r] ++ [V]) (fun v H' => ∃ K, (∃ A, Out v (r.take n).2 A ∧ K = [A, rq pr (.slice p b.length c) (r.take n).1]) ∧ H' = K ++ [V]) := by
  obtain ⟨rfl, hp⟩ := hr
  exact tri_post (raw_spec pr p c r n V hi.vw hi.cap hi.len hp) fun v H ⟨A, h1, h2⟩ => ⟨_, ⟨A, h1, rfl⟩, h2⟩


theorem qNum {V : HProp} (pr : Nat) (p : Option Addr) (c : Nat) (b : List UInt8) (r : R) (hi : Rin V p c b) (hr : r.On b) (size : Nat) (h8 : size ≤ 8) :
    Tri Try.prog 109 [.pointer (some ⟨pr, 0, none⟩), .int .i64 size] ([rq pr (.slice p b.length c) r] ++ [V]) (fun v H' => ∃ K, (v = .int .u64 (r.get size).2 ∧ K = [rq pr (.slice p b.length c) (r.get size).1]) ∧ H' = K ++ [V]) := by
  obtain ⟨rfl, hp⟩ := hr
  exact tri_post (number_spec pr p c r size h8 V hi.vw hi.cap hi.len hp) fun v H ⟨h1, h2⟩ => ⟨_, ⟨h1, rfl⟩, h2⟩


theorem qU32 {V : HProp} (pr : Nat) (p : Option Addr) (c : Nat) (b : List UInt8) (r : R) (hi : Rin V p c b) (hr : r.On b) :
    Tri Try.prog 99 [.pointer (some ⟨pr, 0, none⟩)] ([rq pr (.slice p b.length c) r] ++ [V]) (fun v H' => ∃ K, (v = .int .u32 (r.get 4).2 ∧ K = [rq pr (.slice p b.length c) (r.get 4).1]) ∧ H' = K ++ [V]) := by
  obtain ⟨rfl, hp⟩ := hr
  exact tri_post (q32_spec pr p c r V hi.vw hi.cap hi.len hp) fun v H ⟨h1, h2⟩ => ⟨_, ⟨h1, rfl⟩, h2⟩


theorem qU64 {V : HProp} (pr : Nat) (p : Option Addr) (c : Nat) (b : List UInt8) (r : R) (hi : Rin V p c b) (hr : r.On b) :
    Tri Try.prog 101 [.pointer (some ⟨pr, 0, none⟩)] ([rq pr (.slice p b.length c) r] ++ [V]) (fun v H' => ∃ K, (v = .int .u64 (r.get 8).2 ∧ K = [rq pr (.slice p b.length c) (r.get 8).1]) ∧ H' = K ++ [V]) := by
  obtain ⟨rfl, hp⟩ := hr
  exact tri_post (q64_spec pr p c r V hi.vw hi.cap hi.len hp) fun v H ⟨h1, h2⟩ => ⟨_, ⟨h1, rfl⟩, h2⟩


theorem qEnd (pr : Nat) (p : Option Addr) (c : Nat) (b : List UInt8) (r : R) (hr : r.On b) (hl : b.length ≤ 140737488355328) :
    Tri Try.prog 112 [.pointer (some ⟨pr, 0, none⟩)] [rq pr (.slice p b.length c) r] (fun v H' => v = .tuple #[.int .i64 r.fin.1, .int .i64 r.fin.2] ∧ H' = [rq pr (.slice p b.length c) r]) := by
  obtain ⟨rfl, hp⟩ := hr
  exact qend_spec pr p c r hl hp


theorem qByte {V : HProp} (pr : Nat) (p : Option Addr) (c : Nat) (b : List UInt8) (r : R) (hi : Rin V p c b) (hr : r.On b) : Tri Try.prog 83 [.pointer (some ⟨pr, 0, none⟩)] ([rq pr (.slice p b.length c) r] ++ [V]) (fun v H' => ∃ K, (v = .int .i64 (r.get 1).2 ∧ K = [rq pr (.slice p b.length c) (r.get 1).1]) ∧ H' = K ++ [V]) := by
  refine tri_of_wpS Try.func83 rfl Try.ntmps83 (by simp) ?_
  refine wp_seq' ?_
  refine wp_region' ?_
  refine ops_ro' rfl (ro_assign rfl) rfl ?_
  refine ops_nil ?_
  refine Then_normal ?_
  refine wp_seq' ?_
  refine wp_region' ?_
  refine ops_ro' rfl (ro_move rfl) rfl ?_
  refine ops_eff' rfl (eff_callM (Pre := [_]) Try.call109 rfl rfl (by repeat (first | exact Split.nil _ | apply Split.cons 0 rfl | apply Split.cons 1 rfl | apply Split.cons 2 rfl | apply Split.cons 3 rfl | apply Split.cons 4 rfl | apply Split.cons 5 rfl | apply Split.cons 6 rfl | apply Split.cons 7 rfl | apply Split.cons 8 rfl | apply Split.cons 9 rfl | apply Split.cons 10 rfl | apply Split.cons 11 rfl)) (qNum pr p c b r ⟨Vw.pick 0 rfl hi.vw, hi.cap, hi.len⟩ hr 1 (by omega))) rfl ?_
  rintro _ H' ⟨_, ⟨rfl, rfl⟩, hH⟩
  simp only [List.cons_append, List.nil_append, List.eraseIdx_cons_zero, List.eraseIdx_cons_succ, List.set_cons_zero, List.set_cons_succ] at hH
  subst hH
  have hlt := get_lt r 1
  simp only [Nat.reducePow] at hlt
  refine ops_ro' rfl (ro_conv Try.underlying52 Try.underlying3 rfl (wrap_natN (by omega))) rfl ?_
  refine ops_ro' rfl (ro_assign rfl) rfl ?_
  refine ops_nil ?_
  refine Then_normal ?_
  refine wp_ret' ?_
  refine' doneS_ret (res1 rfl rfl) ?_ ?_
  rotate_left 1
  exact ⟨_, ⟨rfl, rfl⟩, rfl⟩
  exact SubH.refl _


theorem qText {V : HProp} (pr : Nat) (p : Option Addr) (c : Nat) (b : List UInt8) (r : R) (hi : Rin V p c b) (hr : r.On b) (most : Int) (hm : -9223372036854775808 ≤ most ∧ most ≤ 9223372036854775807) : Tri Try.prog 84 [.pointer (some ⟨pr, 0, none⟩), .int .i64 most] ([rq pr (.slice p b.length c) r] ++ [V]) (fun v H' => ∃ K, (v = .string (str (r.text most).2) ∧ K = [rq pr (.slice p b.length c) (r.text most).1]) ∧ H' = K ++ [V]) := by
  refine tri_of_wpS Try.func84 rfl Try.ntmps84 (by simp) ?_
  refine wp_seq' ?_
  refine wp_region' ?_
  refine ops_ro' rfl (ro_assign rfl) rfl ?_
  refine ops_nil ?_
  refine Then_normal ?_
  refine wp_seq' ?_
  refine wp_region' ?_
  refine ops_ro' rfl (ro_move rfl) rfl ?_
  refine ops_ro' rfl (ro_nilCheck rfl) rfl ?_
  refine ops_ro' rfl (ro_fieldAddr fa134_1 rfl) rfl ?_
  refine ops_ro' rfl (ro_load sc3 rfl (Rd.pick 0 rfl (Rd.own rfl))) rfl ?_
  refine ops_ro' rfl (ro_assign rfl) rfl ?_
  refine ops_nil ?_
  refine Then_normal ?_
  refine wp_seq' ?_
  refine wp_region' ?_
  refine ops_ro' rfl (ro_move rfl) rfl ?_
  refine ops_eff' rfl (eff_callM (Pre := [_]) Try.call99 rfl rfl (by repeat (first | exact Split.nil _ | apply Split.cons 0 rfl | apply Split.cons 1 rfl | apply Split.cons 2 rfl | apply Split.cons 3 rfl | apply Split.cons 4 rfl | apply Split.cons 5 rfl | apply Split.cons 6 rfl | apply Split.cons 7 rfl | apply Split.cons 8 rfl | apply Split.cons 9 rfl | apply Split.cons 10 rfl | apply Split.cons 11 rfl)) (qU32 pr p c b r ⟨Vw.pick 0 rfl hi.vw, hi.cap, hi.len⟩ hr)) rfl ?_
  rintro _ H' ⟨_, ⟨rfl, rfl⟩, hH⟩
  simp only [List.cons_append, List.nil_append, List.eraseIdx_cons_zero, List.eraseIdx_cons_succ, List.set_cons_zero, List.set_cons_succ] at hH
  subst hH
  have hlt := get_lt r 4
  simp only [Nat.reducePow] at hlt
  have h4 := R.on_get hr 4
  refine ops_ro' rfl (ro_assign rfl) rfl ?_
  refine ops_nil ?_
  refine Then_normal ?_
  refine wp_cutK 1005 (fun Δ LL => ∃ (mo : Int), (mo = (if 0 > most then 0 else most) ∧ 0 ≤ mo ∧ mo ≤ 9223372036854775807) ∧ Δ = [(1, .int .i64 mo)] ∧ LL = [rq pr (.slice p b.length c) (r.get 4).1, V]) (Has.cons (k := 0) rfl (Has.cons (k := 5) rfl (Has.cons (k := 6) rfl (Has.nil _)))) ?_ ?_
  · refine wp_seq' ?_
    refine wp_region' ?_
    refine ops_ro' rfl (ro_move rfl) rfl ?_
    refine ops_ro' rfl (ro_lss rfl rfl rfl) rfl ?_
    refine ops_nil ?_
    refine Then_normal ?_
    refine wp_cond' rfl (fun hc14 => ?_) (fun hc14 => ?_)
    · replace hc14 := of_decide_eq_true hc14
      refine wp_region' ?_
      refine ops_ro' rfl (ro_assign rfl) rfl ?_
      refine ops_nil ?_
      refine Then_normal ?_
      refine over_cut (kept ⟨0, ⟨(if_pos (by omega)).symm, by omega, by omega⟩, rfl, rfl⟩ ?_ ?_ ?_)
      · exact (by repeat (first | exact Has.nil _ | refine Has.cons rfl ?_))
      · exact (by repeat (first | exact Has.nil _ | refine Has.cons rfl ?_))
      · exact SubH.refl _
    · replace hc14 := of_decide_eq_false hc14
      refine wp_skip' ?_
      refine Then_normal ?_
      refine over_cut (kept ⟨most, ⟨(if_neg (by omega)).symm, by omega, by omega⟩, rfl, rfl⟩ ?_ ?_ ?_)
      · exact (by repeat (first | exact Has.nil _ | refine Has.cons rfl ?_))
      · exact (by repeat (first | exact Has.nil _ | refine Has.cons rfl ?_))
      · exact SubH.refl _
  · rintro Δ LL ⟨mo, ⟨hmo, hm0, hm1⟩, rfl, rfl⟩
    simp only [List.cons_append, List.nil_append]
    refine wp_seq' ?_
    refine wp_seq' ?_
    refine wp_region' ?_
    refine ops_ro' rfl (ro_move rfl) rfl ?_
    refine ops_ro' rfl (ro_nilCheck rfl) rfl ?_
    refine ops_ro' rfl (ro_fieldAddr fa134_2 rfl) rfl ?_
    refine ops_ro' rfl (ro_load sc4 rfl (Rd.pick 0 rfl (Rd.own rfl))) rfl ?_
    refine ops_ro' rfl (ro_not rfl rfl) rfl ?_
    refine ops_split rfl rfl rfl (fun hg20 => ?_) (fun hg20 => ?_)
    · simp only [Bool.and_eq_true, decide_eq_true_eq, Bool.not_eq_true', decide_eq_false_iff_not, bne_iff_ne, ne_eq] at hg20
      replace hg20 : (r.get 4).1.why = 0 := by simpa using hg20
      refine ops_ro' rfl (ro_move rfl) rfl ?_
      refine ops_ro' rfl (ro_conv Try.underlying40 Try.underlying52 rfl (wrap_u64_in (by omega) (by omega))) rfl ?_
      refine ops_ro' rfl (ro_move rfl) rfl ?_
      refine ops_ro' rfl (ro_conv Try.underlying3 Try.underlying52 rfl (wrap_u64_in (by omega) (by omega))) rfl ?_
      refine ops_ro' rfl (ro_gtr rfl rfl rfl) rfl ?_
      refine ops_ro' rfl (ro_pick rfl rfl) rfl ?_
      refine ops_nil ?_
      refine Then_normal ?_
      refine wp_cond' rfl (fun hc26 => ?_) (fun hc26 => ?_)
      · replace hc26 := of_decide_eq_true hc26
        refine wp_seq' ?_
        refine wp_region' ?_
        refine ops_ro' rfl (ro_move rfl) rfl ?_
        refine ops_ro' rfl (ro_move rfl) rfl ?_
        refine ops_eff' rfl (eff_call Try.call110 rfl rfl (by repeat (first | exact Split.nil _ | apply Split.cons 0 rfl | apply Split.cons 1 rfl | apply Split.cons 2 rfl | apply Split.cons 3 rfl | apply Split.cons 4 rfl | apply Split.cons 5 rfl | apply Split.cons 6 rfl | apply Split.cons 7 rfl | apply Split.cons 8 rfl | apply Split.cons 9 rfl | apply Split.cons 10 rfl | apply Split.cons 11 rfl)) (rrefuse_spec pr _ (r.get 4).1 3 r.pos (by decide))) rfl ?_
        rintro _ H' ⟨_, ⟨rfl, rfl⟩, hH⟩
        simp only [List.cons_append, List.nil_append, List.eraseIdx_cons_zero, List.eraseIdx_cons_succ, List.set_cons_zero, List.set_cons_succ] at hH
        subst hH
        refine ops_nil ?_
        refine Then_normal ?_
        refine wp_seq' ?_
        refine wp_region' ?_
        refine ops_ro' rfl (ro_assign rfl) rfl ?_
        refine ops_nil ?_
        refine Then_normal ?_
        refine wp_ret' ?_
        refine Then_ret ?_
        refine' doneS_ret (res1 rfl rfl) ?_ ?_
        rotate_left 1
        exact ⟨_, ⟨by rw [text_long (by assumption) (by rw [← hmo]; omega)]; exact rfl, rfl⟩, by rw [text_long (by assumption) (by rw [← hmo]; omega)]⟩
        exact SubH.refl _
      · replace hc26 := of_decide_eq_false hc26
        refine wp_skip' ?_
        refine Then_normal ?_
        refine wp_seq' ?_
        refine wp_region' ?_
        refine ops_ro' rfl (ro_move rfl) rfl ?_
        refine ops_ro' rfl (ro_move rfl) rfl ?_
        refine ops_ro' rfl (ro_conv Try.underlying40 Try.underlying3 rfl (wrap_natN (by omega))) rfl ?_
        refine ops_eff' rfl (eff_callM (Pre := [_]) Try.call111 rfl rfl (by repeat (first | exact Split.nil _ | apply Split.cons 0 rfl | apply Split.cons 1 rfl | apply Split.cons 2 rfl | apply Split.cons 3 rfl | apply Split.cons 4 rfl | apply Split.cons 5 rfl | apply Split.cons 6 rfl | apply Split.cons 7 rfl | apply Split.cons 8 rfl | apply Split.cons 9 rfl | apply Split.cons 10 rfl | apply Split.cons 11 rfl)) (qRaw pr p c b (r.get 4).1 ⟨Vw.pick 0 rfl hi.vw, hi.cap, hi.len⟩ h4 ((r.get 4).2 : Nat))) rfl ?_
        rintro _ H' ⟨_, ⟨A, ⟨p', c', rfl, hs, rfl⟩, rfl⟩, hH⟩
        simp only [List.cons_append, List.nil_append, List.eraseIdx_cons_zero, List.eraseIdx_cons_succ, List.set_cons_zero, List.set_cons_succ] at hH
        subst hH
        refine ops_ro' rfl (ro_toStr Try.underlying32 Try.underlying5 Try.underlying9 rfl (Vw.pick 0 rfl Vw.row) rfl) rfl ?_
        refine ops_ro' rfl (ro_assign rfl) rfl ?_
        refine ops_nil ?_
        refine Then_normal ?_
        refine wp_ret' ?_
        have hx : r.text most = (r.get 4).1.take ((r.get 4).2 : Nat) := text_ok (by first | exact .inl (by assumption) | exact .inr (by rw [← hmo]; omega))
        refine' doneS_ret (res1 rfl rfl) ?_ ?_
        rotate_left 1
        exact ⟨_, ⟨by rw [hx], rfl⟩, by rw [hx]; first | done | exact rfl⟩
        exact (SubH.cons 1 rfl (SubH.cons 1 rfl (SubH.nil _)))
    · simp only [Bool.and_eq_false_iff, decide_eq_false_iff_not, Bool.not_eq_false', decide_eq_true_eq] at hg20
      replace hg20 : (r.get 4).1.why ≠ 0 := by simpa using hg20
      refine ops_skip' rfl rfl ?_
      refine ops_skip' rfl rfl ?_
      refine ops_skip' rfl rfl ?_
      refine ops_skip' rfl rfl ?_
      refine ops_skip' rfl rfl ?_
      refine ops_ro' rfl (ro_pick rfl rfl) rfl ?_
      refine ops_nil ?_
      refine Then_normal ?_
      refine wp_condF rfl ?_
      refine wp_skip' ?_
      refine Then_normal ?_
      refine wp_seq' ?_
      refine wp_region' ?_
      refine ops_ro' rfl (ro_move rfl) rfl ?_
      refine ops_ro' rfl (ro_move rfl) rfl ?_
      refine ops_ro' rfl (ro_conv Try.underlying40 Try.underlying3 rfl (wrap_natN (by omega))) rfl ?_
      refine ops_eff' rfl (eff_callM (Pre := [_]) Try.call111 rfl rfl (by repeat (first | exact Split.nil _ | apply Split.cons 0 rfl | apply Split.cons 1 rfl | apply Split.cons 2 rfl | apply Split.cons 3 rfl | apply Split.cons 4 rfl | apply Split.cons 5 rfl | apply Split.cons 6 rfl | apply Split.cons 7 rfl | apply Split.cons 8 rfl | apply Split.cons 9 rfl | apply Split.cons 10 rfl | apply Split.cons 11 rfl)) (qRaw pr p c b (r.get 4).1 ⟨Vw.pick 0 rfl hi.vw, hi.cap, hi.len⟩ h4 ((r.get 4).2 : Nat))) rfl ?_
      rintro _ H' ⟨_, ⟨A, ⟨p', c', rfl, hs, rfl⟩, rfl⟩, hH⟩
      simp only [List.cons_append, List.nil_append, List.eraseIdx_cons_zero, List.eraseIdx_cons_succ, List.set_cons_zero, List.set_cons_succ] at hH
      subst hH
      refine ops_ro' rfl (ro_toStr Try.underlying32 Try.underlying5 Try.underlying9 rfl (Vw.pick 0 rfl Vw.row) rfl) rfl ?_
      refine ops_ro' rfl (ro_assign rfl) rfl ?_
      refine ops_nil ?_
      refine Then_normal ?_
      refine wp_ret' ?_
      have hx : r.text most = (r.get 4).1.take ((r.get 4).2 : Nat) := text_ok (by first | exact .inl (by assumption) | exact .inr (by rw [← hmo]; omega))
      refine' doneS_ret (res1 rfl rfl) ?_ ?_
      rotate_left 1
      exact ⟨_, ⟨by rw [hx], rfl⟩, by rw [hx]; first | done | exact rfl⟩
      exact (SubH.cons 1 rfl (SubH.cons 1 rfl (SubH.nil _)))



end Go.Proofs.Ytigaolglnnjnmaa
