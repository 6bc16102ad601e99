/-
  The reference's gate: readers one byte behind; bye, try.
-/
import Derived.Test.YtigaolglnnjnmaaAuthE
import Derived.Test.YtigaolglnnjnmaaRq1
namespace Go.Proofs.Ytigaolglnnjnmaa
open Go.Sx
set_option linter.unusedVariables false
set_option linter.unusedSimpArgs false
set_option maxRecDepth 100000
set_option maxHeartbeats 4000000

/-- one reader is a byte ahead of the other -/
structure Beh (x : UInt8) (q r : R) : Prop where
  b : q.b = x :: r.b
  pos : q.pos = r.pos + 1
  why : q.why = r.why
theorem Beh.refuse {x : UInt8} {q r : R} (h : Beh x q r) (w p p' : Int) : Beh x (q.refuse w p) (r.refuse w p') := by
  unfold R.refuse
  by_cases h1 : r.why = 0
  · rw [if_pos h1, if_pos (h.why.trans h1)]; exact ⟨h.b, h.pos, rfl⟩
  · rw [if_neg h1, if_neg (by rw [h.why]; exact h1)]; exact h
theorem Beh.take {x : UInt8} {q r : R} (h : Beh x q r) (n : Int) : Beh x (q.take n).1 (r.take n).1 ∧ (q.take n).2 = (r.take n).2 := by
  have hb : q.b.length = r.b.length + 1 := by rw [h.b]; rfl
  unfold R.take
  by_cases h1 : r.why ≠ 0
  · rw [if_pos h1, if_pos (by rw [h.why]; exact h1)]; exact ⟨h, rfl⟩
  · rw [if_neg h1, if_neg (by rw [h.why]; exact h1)]
    by_cases h2 : (r.b.length : Int) - r.pos < n
    · rw [if_pos h2, if_pos (by rw [hb, h.pos]; omega)]; exact ⟨h.refuse _ _ _, rfl⟩
    · rw [if_neg h2, if_neg (by rw [hb, h.pos]; omega)]
      by_cases h3 : n ≤ 0
      · rw [if_pos h3, if_pos h3]; exact ⟨h, rfl⟩
      · rw [if_neg h3, if_neg h3]
        exact ⟨⟨h.b, by show q.pos + n.toNat = r.pos + n.toNat + 1; rw [h.pos]; omega, h.why⟩, by simp only; rw [h.b, h.pos, List.drop_succ_cons]⟩
theorem Beh.get {x : UInt8} {q r : R} (h : Beh x q r) (n : Nat) : Beh x (q.get n).1 (r.get n).1 ∧ (q.get n).2 = (r.get n).2 := ⟨(h.take n).1, by unfold R.get; simp only; rw [(h.take n).2]⟩
theorem Beh.text {x : UInt8} {q r : R} (h : Beh x q r) (n : Int) : Beh x (q.text n).1 (r.text n).1 ∧ (q.text n).2 = (r.text n).2 := by
  have h4 := h.get 4
  unfold R.text
  rw [h4.2]
  refine Beh.take ?_ _
  generalize (if 0 > n then 0 else n) = z
  split
  · exact h4.1.refuse _ _ _
  · exact h4.1
theorem Beh.fin {x : UInt8} {q r : R} (h : Beh x q r) : q.fin.1 = r.fin.1 := by
  have hb : q.b.length = r.b.length + 1 := by rw [h.b]; rfl
  unfold R.fin
  rw [h.why, hb, h.pos]
  by_cases h1 : r.why = 0
  · rw [if_pos h1, if_pos h1]
    by_cases h2 : r.pos < r.b.length
    · rw [if_pos h2, if_pos (by omega)]
    · rw [if_neg h2, if_neg (by omega)]
  · rw [if_neg h1, if_neg h1]
theorem R.first (x : UInt8) (l : List UInt8) : (R.new (x :: l)).get 1 = (⟨x :: l, 1, 0, 0⟩, x.toNat) := by
  unfold R.get R.take R.new
  rw [if_neg (by simp), if_neg (by simp; omega), if_neg (by simp)]
  simp [val]
theorem Beh.one (x : UInt8) (l : List UInt8) : Beh x ⟨x :: l, 1, 0, 0⟩ (R.new l) := ⟨rfl, rfl, rfl⟩
theorem beh_ask {x : UInt8} {q r : R} (h : Beh x q r) (g : Gs) : gAsk g q = gAsk g r := by unfold gAsk; rw [(h.text 64).1.fin, (h.text 64).2]
theorem beh_login {x : UInt8} {q r : R} (h : Beh x q r) (g : Gs) (us : List Us) : gLogin g us q = gLogin g us r := by
  have h1 := h.text 64
  have h2 := h1.1.text 64
  have h3 := h2.1.text 64
  have h4 := h3.1.get 1
  have h5 := h4.1.text 64
  unfold gLogin gLogE
  rw [h3.1.why, h1.2, h2.2, h3.2, h4.2, h5.1.fin, h5.2]
abbrev gr (bw : Nat) (p : Option Addr) (k c : Nat) (g : Gs) : HProp := own bw (.cells #[.slice p k c, .bool g.sv, .bool g.inn, .string (str g.user), .int .i64 (g.tries : Int), .bool g.dead] 89 (0, 0))
theorem qFine (pr : Nat) (p : Option Addr) (c : Nat) (b : List UInt8) (r : R) (hr : r.On b) (hl : b.length ≤ 140737488355328) :
    Tri Try.prog 85 [.pointer (some ⟨pr, 0, none⟩)] [rq pr (.slice p b.length c) r] (fun v H' => v = .bool (decide (r.fin.1 = 0)) ∧ H' = [rq pr (.slice p b.length c) r]) := by
  refine tri_of_wpS Try.func85 rfl Try.ntmps85 (by simp) ?_
  refine wp_seq' ?_
  refine wp_region' ?_
  refine ops_ro' rfl (ro_assign rfl) rfl ?_
  refine ops_nil ?_
  refine Then_normal ?_
  refine wp_seq' ?_
  refine wp_region' ?_
  refine ops_ro' rfl (ro_move rfl) rfl ?_
  refine ops_eff' rfl (eff_call Try.call112 rfl rfl (by repeat (first | exact Split.nil _ | apply Split.cons 0 rfl | apply Split.cons 1 rfl | apply Split.cons 2 rfl | apply Split.cons 3 rfl | apply Split.cons 4 rfl | apply Split.cons 5 rfl | apply Split.cons 6 rfl | apply Split.cons 7 rfl | apply Split.cons 8 rfl | apply Split.cons 9 rfl | apply Split.cons 10 rfl | apply Split.cons 11 rfl)) (qEnd pr p c b r hr hl)) rfl ?_
  rintro _ H' ⟨_, ⟨rfl, rfl⟩, hH⟩
  simp only [List.cons_append, List.nil_append, List.eraseIdx_cons_zero, List.eraseIdx_cons_succ, List.set_cons_zero, List.set_cons_succ] at hH
  subst hH
  refine ops_ro' rfl (ro_move rfl) rfl ?_
  refine ops_ro' rfl (ro_extract rfl rfl) rfl ?_
  refine ops_ro' rfl (ro_extract rfl rfl) rfl ?_
  refine ops_ro' rfl (ro_assign rfl) rfl ?_
  refine ops_ro' rfl (ro_assign rfl) rfl ?_
  refine ops_nil ?_
  refine Then_normal ?_
  refine wp_seq' ?_
  refine wp_region' ?_
  refine ops_ro' rfl (ro_move rfl) rfl ?_
  refine ops_ro' rfl (ro_eql rfl rfl rfl) rfl ?_
  refine ops_ro' rfl (ro_assign rfl) rfl ?_
  refine ops_nil ?_
  refine Then_normal ?_
  refine wp_ret' ?_
  refine' doneS_ret (res1 rfl rfl) ?_ ?_
  rotate_left 1
  exact ⟨rfl, rfl⟩
  exact SubH.refl _


theorem qwU32_to {V : HProp} (p : Option Addr) (c : Nat) (l : List UInt8) (hV : Vw V (.slice p l.length c) l.length (cel l)) (hl : l.length ≤ 1000) (n : Nat) {x : List UInt8} (hx : l ++ be n 4 = x) : Tri Try.prog 53 [.slice p l.length c, .int .u32 n] [V] (fun v H' => ∃ K, (∃ p' c', v = .slice p' x.length c' ∧ K = [row 5 1 (.slice p' x.length c') x.length (cel x)]) ∧ H' = K ++ [V]) := by
  subst hx; exact qwU32 p c l hV (by omega) n
theorem qwText_to {V : HProp} (p : Option Addr) (c : Nat) (l : List UInt8) (hV : Vw V (.slice p l.length c) l.length (cel l)) (hl : l.length ≤ 1000) (s : List UInt8) (hs : s.length ≤ 100000) {x : List UInt8} (hx : l ++ be s.length 4 ++ s = x) : Tri Try.prog 44 [.slice p l.length c, .string (str s)] [V] (fun v H' => ∃ K, (∃ p' c', v = .slice p' x.length c' ∧ K = [row 5 1 (.slice p' x.length c') x.length (cel x)]) ∧ H' = K ++ [V]) := by
  subst hx; exact qwText p c l hV (by omega) s (by omega)
theorem bye_to (n : Nat) : ∃ a5 a6 : List UInt8, [1] ++ be n 4 = a5 ∧ a5 ++ be ([] : List UInt8).length 4 ++ [] = a6 ∧ a6 ++ be ([] : List UInt8).length 4 ++ [] = byeB n ∧ a5.length = 5 ∧ a6.length = 9 := by
  refine ⟨_, _, rfl, rfl, ?_, by simp [be_length], by simp [be_length]⟩
  rw [byeB, show b8 1 = 1 from by decide]; simp only [List.length_nil, List.append_nil, List.cons_append, List.nil_append, List.append_assoc]


theorem rqBye_spec (V : HProp) (n : Nat) : Tri Try.prog 19 [.int .u32 (n : Int)] [V] (fun v H' => ∃ K, (∃ p c, v = .slice p (byeB n).length c ∧ K = [row 5 1 (.slice p (byeB n).length c) (byeB n).length (cel (byeB n))]) ∧ H' = K ++ [V]) := by
  refine tri_of_wpS Try.func19 rfl Try.ntmps19 (by simp) ?_
  refine wp_seq' ?_
  refine wp_region' ?_
  refine ops_ro' rfl (ro_assign rfl) rfl ?_
  refine ops_nil ?_
  refine Then_normal ?_
  refine wp_seq' ?_
  obtain ⟨a5, a6, e5, e6, e7, hl5, hl6⟩ := bye_to n
  refine wp_region' ?_
  refine ops_eff' rfl (eff_lit sl32 rfl (sbld (cs := cel [1]) [(.int .u8 0)] sl32 (by decide) (by kernel_rfl) rfl) rfl (by decide)) rfl ?_
  rintro _ _ ⟨b3, rfl, rfl⟩
  refine ops_ro' rfl (ro_move rfl) rfl ?_
  refine ops_eff' rfl (eff_callM (Pre := []) Try.call53 rfl rfl (Split.nil _) (qwU32_to _ _ [1] (by first | exact Vw.pick 0 rfl Vw.row | exact Vw.pick 1 rfl Vw.row | exact Vw.pick 2 rfl Vw.row | exact Vw.pick 3 rfl Vw.row | exact Vw.pick 4 rfl Vw.row | exact Vw.pick 5 rfl Vw.row | exact Vw.pick 6 rfl Vw.row | exact Vw.pick 7 rfl Vw.row | exact Vw.pick 8 rfl Vw.row | exact Vw.pick 9 rfl Vw.row | exact Vw.nil _ | exact Vw.empty _ _) (by decide) n e5)) rfl ?_
  rintro _ H' ⟨_, ⟨p5, c5, rfl, rfl⟩, hH⟩
  simp only [List.cons_append, List.nil_append, List.eraseIdx_cons_zero, List.eraseIdx_cons_succ, List.set_cons_zero, List.set_cons_succ] at hH
  subst hH
  refine ops_eff' rfl (eff_callM (Pre := []) Try.call44 rfl rfl (Split.nil _) (qwText_to _ _ a5 (by first | exact Vw.pick 0 rfl Vw.row | exact Vw.pick 1 rfl Vw.row | exact Vw.pick 2 rfl Vw.row | exact Vw.pick 3 rfl Vw.row | exact Vw.pick 4 rfl Vw.row | exact Vw.pick 5 rfl Vw.row | exact Vw.pick 6 rfl Vw.row | exact Vw.pick 7 rfl Vw.row | exact Vw.pick 8 rfl Vw.row | exact Vw.pick 9 rfl Vw.row | exact Vw.nil _ | exact Vw.empty _ _) (by omega) [] (by decide) e6)) rfl ?_
  rintro _ H' ⟨_, ⟨p6, c6, rfl, rfl⟩, hH⟩
  simp only [List.cons_append, List.nil_append, List.eraseIdx_cons_zero, List.eraseIdx_cons_succ, List.set_cons_zero, List.set_cons_succ] at hH
  subst hH
  refine ops_eff' rfl (eff_callM (Pre := []) Try.call44 rfl rfl (Split.nil _) (qwText_to _ _ a6 (by first | exact Vw.pick 0 rfl Vw.row | exact Vw.pick 1 rfl Vw.row | exact Vw.pick 2 rfl Vw.row | exact Vw.pick 3 rfl Vw.row | exact Vw.pick 4 rfl Vw.row | exact Vw.pick 5 rfl Vw.row | exact Vw.pick 6 rfl Vw.row | exact Vw.pick 7 rfl Vw.row | exact Vw.pick 8 rfl Vw.row | exact Vw.pick 9 rfl Vw.row | exact Vw.nil _ | exact Vw.empty _ _) (by omega) [] (by decide) e7)) rfl ?_
  rintro _ H' ⟨_, ⟨p7, c7, rfl, rfl⟩, hH⟩
  simp only [List.cons_append, List.nil_append, List.eraseIdx_cons_zero, List.eraseIdx_cons_succ, List.set_cons_zero, List.set_cons_succ] at hH
  subst hH
  refine ops_ro' rfl (ro_assign rfl) rfl ?_
  refine ops_nil ?_
  refine Then_normal ?_
  refine wp_ret' ?_
  refine' doneS_ret (res1 rfl rfl) ?_ ?_
  rotate_left 1
  exact ⟨_, ⟨p7, c7, rfl, rfl⟩, rfl⟩
  exact (SubH.cons 0 rfl (SubH.cons 3 rfl (SubH.nil _)))
theorem rqEnd_spec (bw : Nat) (p : Option Addr) (k c : Nat) (g : Gs) (n : Nat) : Tri Try.prog 86 [.pointer (some ⟨bw, 0, none⟩), .int .u32 (n : Int)] [gr bw p k c g] (fun v H' => H' = [ansP v (some (byeB n)), gr bw p k c { g with dead := true }]) := by
  refine tri_of_wpS Try.func86 rfl Try.ntmps86 (by simp) ?_
  refine wp_seq' ?_
  refine wp_region' ?_
  refine ops_ro' rfl (ro_assign rfl) rfl ?_
  refine ops_nil ?_
  refine Then_normal ?_
  refine wp_seq' ?_
  refine wp_region' ?_
  refine ops_ro' rfl (ro_move rfl) rfl ?_
  refine ops_ro' rfl (ro_nilCheck rfl) rfl ?_
  refine ops_ro' rfl (ro_fieldAddr fa89_5 rfl) rfl ?_
  refine ops_eff0 rfl (eff_store 0 sc4 rfl rfl rfl rfl (Nat.le_of_ble_eq_true rfl) (warm_zero _)) rfl ?_
  rintro _ _ rfl
  refine ops_nil ?_
  refine Then_normal ?_
  refine wp_seq' ?_
  refine wp_region' ?_
  refine ops_ro' rfl (ro_move rfl) rfl ?_
  refine ops_eff' rfl (eff_callM (Pre := []) Try.call19 rfl rfl (Split.nil _) (rqBye_spec _ n)) rfl ?_
  rintro _ H' ⟨_, ⟨p9, c9, rfl, rfl⟩, hH⟩
  simp only [List.cons_append, List.nil_append, List.eraseIdx_cons_zero, List.eraseIdx_cons_succ, List.set_cons_zero, List.set_cons_succ] at hH
  subst hH
  refine ops_eff' rfl (eff_lit sl36 rfl (sbld (cs := [_]) [(.slice none 0 0)] sl36 (by decide) (by kernel_rfl) rfl) rfl (by decide)) rfl ?_
  rintro _ _ ⟨b10, rfl, rfl⟩
  refine ops_ro' rfl (ro_assign rfl) rfl ?_
  refine ops_nil ?_
  refine Then_normal ?_
  refine wp_ret' ?_
  refine doneS_pre ansP_fold ?_
  refine' doneS_ret (res1 rfl rfl) ?_ ?_
  rotate_left 1
  exact rfl
  exact SubH.refl _


theorem joinc_tp : joinc 44 [tPass] = tPass := by simp [joinc]
theorem tp_join (i : Nat) : (joinc 44 ([tPass].take i)).length ≤ 100000000000 := by
  cases i with
  | zero => decide
  | succ n => rw [List.take_of_length_le (by simp), joinc_tp]; decide
def try1 : List UInt8 := [51, 0, 0, 0, 8, 112, 97, 115, 115, 119, 111, 114, 100]
theorem tryNames {V : HProp} (p : Option Addr) (c : Nat) (q : Option Addr) (cq : Nat) (hV : Vw V (.slice p 1 c) 1 (cel [51])) (hx : Vw V (.slice q 1 cq) 1 (txs [tPass])) :
    Tri Try.prog 123 [.slice p 1 c, .slice q 1 cq] [V] (fun v H' => ∃ K, (∃ p c, v = .slice p try1.length c ∧ K = [row 5 1 (.slice p try1.length c) try1.length (cel try1)]) ∧ H' = K ++ [V]) := by
  have h := qwNames p c [51] hV (by decide) (by decide) q cq [tPass] hx (by decide) tp_join (by decide)
  rw [joinc_tp, show ([51] ++ be tPass.length 4 ++ tPass : List UInt8) = try1 from by decide] at h
  exact h
theorem tryBool {V : HProp} (p : Option Addr) (c : Nat) (hV : Vw V (.slice p try1.length c) try1.length (cel try1)) :
    Tri Try.prog 45 [.slice p try1.length c, .bool false] [V] (fun v H' => ∃ K, (∃ p c, v = .slice p tryB.length c ∧ K = [row 5 1 (.slice p tryB.length c) tryB.length (cel tryB)]) ∧ H' = K ++ [V]) := by
  have h := qwBool p c try1 hV (by decide) false
  rw [show (try1 ++ [b8 (if false = true then 1 else 0)] : List UInt8) = tryB from by decide] at h
  exact h
theorem rqTry_spec (bw : Nat) (p : Option Addr) (k c : Nat) (g : Gs) (ht : g.tries ≤ 100000) : Tri Try.prog 113 [.pointer (some ⟨bw, 0, none⟩)] [gr bw p k c g] (fun v H' => H' = [ansP v (gTry g).2, gr bw p k c (gTry g).1]) := by
  refine tri_of_wpS Try.func113 rfl Try.ntmps113 (by simp) ?_
  refine wp_seq' ?_
  refine wp_region' ?_
  refine ops_ro' rfl (ro_assign rfl) rfl ?_
  refine ops_nil ?_
  refine Then_normal ?_
  refine wp_seq' ?_
  refine wp_region' ?_
  refine ops_ro' rfl (ro_move rfl) rfl ?_
  refine ops_ro' rfl (ro_nilCheck rfl) rfl ?_
  refine ops_ro' rfl (ro_fieldAddr fa89_4 rfl) rfl ?_
  refine ops_ro' rfl (ro_load sc3 rfl (Rd.pick 0 rfl (Rd.own rfl))) rfl ?_
  refine ops_ro' rfl (ro_add rfl rfl (wrap_inc (by omega))) rfl ?_
  refine ops_ro' rfl (ro_nilCheck rfl) rfl ?_
  refine ops_ro' rfl (ro_fieldAddr fa89_4 rfl) rfl ?_
  refine ops_eff0 rfl (eff_store 0 sc3 rfl rfl rfl rfl (Nat.le_of_ble_eq_true rfl) (warm_zero _)) rfl ?_
  rintro _ _ rfl
  refine ops_nil ?_
  refine Then_normal ?_
  refine wp_seq' ?_
  refine wp_seq' ?_
  refine wp_region' ?_
  refine ops_ro' rfl (ro_move rfl) rfl ?_
  refine ops_ro' rfl (ro_nilCheck rfl) rfl ?_
  refine ops_ro' rfl (ro_fieldAddr fa89_4 rfl) rfl ?_
  refine ops_ro' rfl (ro_load sc3 rfl (Rd.pick 0 rfl (Rd.own rfl))) rfl ?_
  refine ops_ro' rfl (ro_geq rfl rfl rfl) rfl ?_
  refine ops_nil ?_
  refine Then_normal ?_
  refine wp_cond' rfl (fun hc14 => ?_) (fun hc14 => ?_)
  · replace hc14 := of_decide_eq_true hc14
    refine wp_seq' ?_
    refine wp_region' ?_
    refine ops_ro' rfl (ro_move rfl) rfl ?_
    refine ops_eff' rfl (eff_call Try.call86 rfl rfl (by repeat (first | exact Split.nil _ | apply Split.cons 0 rfl | apply Split.cons 1 rfl | apply Split.cons 2 rfl | apply Split.cons 3 rfl | apply Split.cons 4 rfl | apply Split.cons 5 rfl | apply Split.cons 6 rfl | apply Split.cons 7 rfl | apply Split.cons 8 rfl | apply Split.cons 9 rfl | apply Split.cons 10 rfl | apply Split.cons 11 rfl)) (rqEnd_spec bw p k c { g with tries := g.tries + 1 } 14)) rfl ?_
    rintro _ H' ⟨_, rfl, hH⟩
    simp only [List.cons_append, List.nil_append, List.eraseIdx_cons_zero, List.eraseIdx_cons_succ, List.set_cons_zero, List.set_cons_succ] at hH
    subst hH
    refine ops_ro' rfl (ro_assign rfl) rfl ?_
    refine ops_nil ?_
    refine Then_normal ?_
    refine wp_ret' ?_
    refine Then_ret ?_
    refine' doneS_ret (res1 rfl rfl) ?_ ?_
    rotate_left 1
    rw [gTry_end (by omega)]
    exact SubH.refl _
  · replace hc14 := of_decide_eq_false hc14
    refine wp_skip' ?_
    refine Then_normal ?_
    refine wp_seq' ?_
    refine wp_region' ?_
    refine ops_eff' rfl (eff_lit sl32 rfl (sbld (cs := cel [51]) [(.int .u8 0)] sl32 (by decide) (by kernel_rfl) rfl) rfl (by decide)) rfl ?_
    rintro _ _ ⟨b17, rfl, rfl⟩
    refine ops_eff' rfl (eff_lit sl22 rfl (sbld (cs := txs [tPass]) [(.string ByteArray.empty)] sl22 (by decide) (by kernel_rfl) rfl) rfl (by decide)) rfl ?_
    rintro _ _ ⟨b18, rfl, rfl⟩
    refine ops_eff' rfl (eff_callM (Pre := []) Try.call123 rfl rfl (Split.nil _) (tryNames _ _ _ _ (by first | exact Vw.pick 0 rfl Vw.row | exact Vw.pick 1 rfl Vw.row | exact Vw.pick 2 rfl Vw.row | exact Vw.pick 3 rfl Vw.row | exact Vw.pick 4 rfl Vw.row | exact Vw.pick 5 rfl Vw.row | exact Vw.pick 6 rfl Vw.row | exact Vw.pick 7 rfl Vw.row | exact Vw.pick 8 rfl Vw.row | exact Vw.pick 9 rfl Vw.row | exact Vw.nil _ | exact Vw.empty _ _) (by first | exact Vw.pick 0 rfl Vw.row | exact Vw.pick 1 rfl Vw.row | exact Vw.pick 2 rfl Vw.row | exact Vw.pick 3 rfl Vw.row | exact Vw.pick 4 rfl Vw.row | exact Vw.pick 5 rfl Vw.row | exact Vw.pick 6 rfl Vw.row | exact Vw.pick 7 rfl Vw.row | exact Vw.pick 8 rfl Vw.row | exact Vw.pick 9 rfl Vw.row | exact Vw.nil _ | exact Vw.empty _ _))) rfl ?_
    rintro _ H' ⟨_, ⟨p19, c19, rfl, rfl⟩, hH⟩
    simp only [List.cons_append, List.nil_append, List.eraseIdx_cons_zero, List.eraseIdx_cons_succ, List.set_cons_zero, List.set_cons_succ] at hH
    subst hH
    refine ops_eff' rfl (eff_callM (Pre := []) Try.call45 rfl rfl (Split.nil _) (tryBool _ _ (by first | exact Vw.pick 0 rfl Vw.row | exact Vw.pick 1 rfl Vw.row | exact Vw.pick 2 rfl Vw.row | exact Vw.pick 3 rfl Vw.row | exact Vw.pick 4 rfl Vw.row | exact Vw.pick 5 rfl Vw.row | exact Vw.pick 6 rfl Vw.row | exact Vw.pick 7 rfl Vw.row | exact Vw.pick 8 rfl Vw.row | exact Vw.pick 9 rfl Vw.row | exact Vw.nil _ | exact Vw.empty _ _))) rfl ?_
    rintro _ H' ⟨_, ⟨p20, c20, rfl, rfl⟩, hH⟩
    simp only [List.cons_append, List.nil_append, List.eraseIdx_cons_zero, List.eraseIdx_cons_succ, List.set_cons_zero, List.set_cons_succ] at hH
    subst hH
    refine ops_eff' rfl (eff_lit sl36 rfl (sbld (cs := [_]) [(.slice none 0 0)] sl36 (by decide) (by kernel_rfl) rfl) rfl (by decide)) rfl ?_
    rintro _ _ ⟨b21, rfl, rfl⟩
    refine ops_ro' rfl (ro_assign rfl) rfl ?_
    refine ops_nil ?_
    refine Then_normal ?_
    refine wp_ret' ?_
    refine doneS_pre ansP_fold ?_
    refine' doneS_ret (res1 rfl rfl) ?_ ?_
    rotate_left 1
    rw [gTry_go (by omega)]
    exact (SubH.cons 0 rfl (SubH.cons 3 rfl (SubH.nil _)))

end Go.Proofs.Ytigaolglnnjnmaa
