/-
  The reader of package wire: states that are all right; texts.
  Numbers as bytes: plain laws.
  Plain laws of readers: what stands there is read; what was read stood there.
-/
import Derived.Test.YtbbmhppkhcodfaaSxStr
import Derived.Test.YtbbmhppkhcodfaaRead
namespace Go.Proofs.Ytbbmhppkhcodfaa
open Go.Sx
set_option linter.unusedVariables false
set_option linter.unusedSimpArgs false
set_option maxRecDepth 100000
set_option maxHeartbeats 4000000

structure R.Good (r : R) : Prop where
  len : r.b.length ≤ 140737488355328
  pos : r.pos ≤ r.b.length
theorem R.good_take {r : R} (h : r.Good) (n : Int) : (r.take n).1.Good := ⟨by rw [take_b]; exact h.len, take_pos r n h.pos⟩
theorem R.good_get {r : R} (h : r.Good) (n : Nat) : (r.get n).1.Good := R.good_take h n
theorem R.good_refuse {r : R} (h : r.Good) (w k : Int) : (r.refuse w k).Good := by unfold R.refuse; split; exact ⟨h.len, h.pos⟩; exact h
theorem R.good_fail {r : R} (h : r.Good) (w : Int) : (r.fail w).Good := by unfold R.fail; split; exact h; exact R.good_refuse h _ _
theorem R.good_new (l : List UInt8) (h : l.length ≤ 140737488355328) : (R.new l).Good := ⟨h, Nat.zero_le _⟩
theorem R.good_ite {p : Prop} [Decidable p] {a b : R} (h1 : a.Good) (h2 : b.Good) : (if p then a else b).Good := by split; exact h1; exact h2
/-- a text that is not longer than most -/
def R.text (r : R) (most : Int) : R × List UInt8 :=
  (if (if 0 > most then 0 else most) < ((r.get 4).2 : Int) then (r.get 4).1.refuse 3 r.pos else (r.get 4).1).take ((r.get 4).2 : Nat)
theorem R.good_text {r : R} (h : r.Good) (n : Int) : (r.text n).1.Good := by
  unfold R.text; exact R.good_take (R.good_ite (R.good_refuse (R.good_get h 4) _ _) (R.good_get h 4)) _
theorem take_why0 (r : R) (n : Int) (h : r.why ≠ 0) : (r.take n).1 = r := by unfold R.take; rw [if_pos h]


theorem rText_spec (pr : Nat) (p : Option Addr) (c : Nat) (r : R) (hg : r.Good) (most : Int) (hm : -9223372036854775808 ≤ most ∧ most ≤ 9223372036854775807) :
    Tri Try.prog 85 [.pointer (some ⟨pr, 0, none⟩), .int .i64 most] (rd pr p c r) (fun v H' => v = .string (str (r.text most).2) ∧ H' = rd pr p c (r.text most).1) := by
  refine tri_of_wpS Try.func85 rfl Try.ntmps85 (by simp) ?_
  refine wp_seq' ?_
  refine wp_region' ?_
  refine ops_ro' rfl (ro_assign rfl) rfl ?_
  refine ops_nil ?_
  refine Then_normal ?_
  refine wp_seq' ?_
  refine wp_region' ?_
  refine ops_ro' rfl (ro_move rfl) rfl ?_
  refine ops_ro' rfl (ro_nilCheck rfl) rfl ?_
  refine ops_ro' rfl (ro_fieldAddr fa139_1 rfl) rfl ?_
  refine ops_ro' rfl (ro_load sc3 rfl (Rd.pick 0 rfl (Rd.own rfl))) rfl ?_
  refine ops_ro' rfl (ro_assign rfl) rfl ?_
  refine ops_nil ?_
  refine Then_normal ?_
  refine wp_seq' ?_
  refine wp_region' ?_
  refine ops_ro' rfl (ro_move rfl) rfl ?_
  refine ops_eff' rfl (eff_call Try.call81 rfl rfl (by repeat (first | exact Split.nil _ | apply Split.cons 0 rfl | apply Split.cons 1 rfl | apply Split.cons 2 rfl | apply Split.cons 3 rfl | apply Split.cons 4 rfl | apply Split.cons 5 rfl | apply Split.cons 6 rfl | apply Split.cons 7 rfl | apply Split.cons 8 rfl | apply Split.cons 9 rfl | apply Split.cons 10 rfl | apply Split.cons 11 rfl)) (get_spec pr p c r 4 (by omega) hg.len hg.pos)) rfl ?_
  rintro _ H' ⟨_, ⟨rfl, rfl⟩, hH⟩
  simp only [List.cons_append, List.nil_append, List.eraseIdx_cons_zero, List.eraseIdx_cons_succ, List.set_cons_zero, List.set_cons_succ] at hH
  subst hH
  have hlt := get_lt r 4
  simp only [Nat.reducePow] at hlt
  have hg1 := R.good_get hg 4
  refine ops_ro' rfl (ro_assign rfl) rfl ?_
  refine ops_nil ?_
  refine Then_normal ?_
  refine wp_cutK 1005 (fun Δ LL => ∃ (q : R), (q.Good ∧ q = (if (if 0 > most then 0 else most) < ((r.get 4).2 : Int) then (r.get 4).1.refuse 3 r.pos else (r.get 4).1)) ∧ Δ = [] ∧ LL = rd pr p c q) (Has.cons (k := 0) rfl (Has.cons (k := 6) rfl (Has.nil _))) ?_ ?_
  · refine wp_seq' ?_
    refine wp_region' ?_
    refine ops_ro' rfl (ro_move rfl) rfl ?_
    refine ops_ro' rfl (ro_move rfl) rfl ?_
    refine ops_ro' rfl (ro_max rfl rfl rfl) rfl ?_
    refine ops_ro' rfl (ro_conv Try.underlying3 Try.underlying34 rfl (wrap_u64_in (by split <;> omega) (by split <;> omega))) rfl ?_
    refine ops_ro' rfl (ro_gtr rfl rfl rfl) rfl ?_
    refine ops_nil ?_
    refine Then_normal ?_
    refine wp_cond' rfl (fun hc17 => ?_) (fun hc17 => ?_)
    · replace hc17 := of_decide_eq_true hc17
      refine wp_region' ?_
      refine ops_ro' rfl (ro_move rfl) rfl ?_
      refine ops_ro' rfl (ro_move rfl) rfl ?_
      refine ops_eff' rfl (eff_call Try.call103 rfl rfl (by repeat (first | exact Split.nil _ | apply Split.cons 0 rfl | apply Split.cons 1 rfl | apply Split.cons 2 rfl | apply Split.cons 3 rfl | apply Split.cons 4 rfl | apply Split.cons 5 rfl | apply Split.cons 6 rfl | apply Split.cons 7 rfl | apply Split.cons 8 rfl | apply Split.cons 9 rfl | apply Split.cons 10 rfl | apply Split.cons 11 rfl)) (refuse_spec pr p c (r.get 4).1 3 r.pos)) rfl ?_
      rintro _ H' ⟨_, ⟨rfl, rfl⟩, hH⟩
      simp only [List.cons_append, List.nil_append, List.eraseIdx_cons_zero, List.eraseIdx_cons_succ, List.set_cons_zero, List.set_cons_succ] at hH
      subst hH
      refine ops_nil ?_
      refine Then_normal ?_
      refine over_cut (kept ⟨_, ⟨R.good_refuse hg1 _ _, (if_pos hc17).symm⟩, rfl, rfl⟩ ?_ ?_ ?_)
      · exact (by repeat (first | exact Has.nil _ | refine Has.cons rfl ?_))
      · exact (by repeat (first | exact Has.nil _ | refine Has.cons rfl ?_))
      · exact SubH.refl _
    · replace hc17 := of_decide_eq_false hc17
      refine wp_skip' ?_
      refine Then_normal ?_
      refine over_cut (kept ⟨_, ⟨hg1, (if_neg hc17).symm⟩, rfl, rfl⟩ ?_ ?_ ?_)
      · exact (by repeat (first | exact Has.nil _ | refine Has.cons rfl ?_))
      · exact (by repeat (first | exact Has.nil _ | refine Has.cons rfl ?_))
      · exact SubH.refl _
  · rintro Δ LL ⟨q, ⟨hq, hqe⟩, rfl, rfl⟩
    simp only [List.cons_append, List.nil_append]
    refine wp_seq' ?_
    refine wp_region' ?_
    refine ops_ro' rfl (ro_move rfl) rfl ?_
    refine ops_ro' rfl (ro_move rfl) rfl ?_
    refine ops_ro' rfl (ro_conv Try.underlying34 Try.underlying3 rfl (wrap_natN (by omega))) rfl ?_
    refine ops_eff' rfl (eff_call Try.call102 rfl rfl (by repeat (first | exact Split.nil _ | apply Split.cons 0 rfl | apply Split.cons 1 rfl | apply Split.cons 2 rfl | apply Split.cons 3 rfl | apply Split.cons 4 rfl | apply Split.cons 5 rfl | apply Split.cons 6 rfl | apply Split.cons 7 rfl | apply Split.cons 8 rfl | apply Split.cons 9 rfl | apply Split.cons 10 rfl | apply Split.cons 11 rfl)) (take_spec pr p c q ((r.get 4).2 : Nat) hq.len hq.pos)) rfl ?_
    rintro _ H' ⟨_, ⟨A, ⟨p', c', rfl, hs, rfl⟩, rfl⟩, hH⟩
    simp only [List.cons_append, List.nil_append, List.eraseIdx_cons_zero, List.eraseIdx_cons_succ, List.set_cons_zero, List.set_cons_succ] at hH
    subst hH
    refine ops_ro' rfl (ro_toStr Try.underlying30 Try.underlying5 Try.underlying9 rfl (Vw.pick 0 rfl Vw.row) rfl) rfl ?_
    refine ops_ro' rfl (ro_assign rfl) rfl ?_
    refine ops_nil ?_
    refine Then_normal ?_
    refine wp_ret' ?_
    refine' doneS_ret (res1 rfl rfl) ?_ ?_
    rotate_left 1
    exact ⟨by unfold R.text; rw [← hqe], by unfold R.text; rw [← hqe]⟩
    exact (SubH.cons 1 rfl (SubH.cons 1 rfl (SubH.nil _)))

end Go.Proofs.Ytbbmhppkhcodfaa
namespace Go.Proofs.Ytbbmhppkhcodfaa
open Go.Sx
set_option linter.unusedVariables false
set_option linter.unusedSimpArgs false
set_option maxRecDepth 100000
theorem b8_toNat (n : Nat) : (UInt8.ofNat n).toNat = n % 256 := UInt8.toNat_ofNat'
theorem val_cons (c : UInt8) (l : List UInt8) : val (c :: l) = c.toNat * 256 ^ l.length + val l := by
  have key : ∀ (l : List UInt8) (a : Nat), l.foldl (fun n c => n * 256 + c.toNat) a = a * 256 ^ l.length + l.foldl (fun n c => n * 256 + c.toNat) 0 := by
    intro l
    induction l with
    | nil => intro a; simp
    | cons d l ih =>
      intro a
      simp only [List.foldl_cons, List.length_cons]
      rw [ih (a * 256 + d.toNat), ih (0 * 256 + d.toNat)]
      simp only [Nat.zero_mul, Nat.zero_add, Nat.pow_succ, Nat.add_mul, Nat.mul_assoc, Nat.add_assoc, Nat.mul_comm 256]
  unfold val
  simp only [List.foldl_cons]
  rw [key]; simp
theorem val_be (n : Nat) : ∀ k, val (be n k) = n % 256 ^ k
  | 0 => by simp [be, val, Nat.mod_one]
  | k + 1 => by
    rw [be, val_cons, val_be n k, be_length, b8_toNat, Nat.pow_succ, Nat.mod_mul]
    rw [Nat.mul_comm, Nat.add_comm]
end Go.Proofs.Ytbbmhppkhcodfaa
namespace Go.Proofs.Ytbbmhppkhcodfaa
open Go.Sx
set_option linter.unusedVariables false
set_option linter.unusedSimpArgs false
set_option maxRecDepth 100000
set_option maxHeartbeats 4000000

def R.adv (q : R) (n : Nat) : R := { q with pos := q.pos + n }
/-- nothing was refused, and this is left -/
structure Here (q : R) (l : List UInt8) : Prop where
  why : q.why = 0
  pos : q.pos ≤ q.b.length
  at' : q.b.drop q.pos = l
theorem Here.new (l : List UInt8) : Here (R.new l) l := ⟨rfl, Nat.zero_le _, rfl⟩
theorem Here.len {q : R} {l : List UInt8} (h : Here q l) : q.pos + l.length = q.b.length := by rw [← h.at', List.length_drop]; have := h.pos; omega
theorem Here.adv {q : R} {x l : List UInt8} (h : Here q (x ++ l)) {n : Nat} (hn : n = x.length) : Here (q.adv n) l := ⟨h.why, by
  have := h.len; rw [List.length_append] at this
  show q.pos + n ≤ q.b.length; omega, by
  show q.b.drop (q.pos + n) = l
  rw [← List.drop_drop, h.at', hn, List.drop_left]⟩
theorem adv_adv (q : R) (a b : Nat) : (q.adv a).adv b = q.adv (a + b) := by unfold R.adv; simp only [Nat.add_assoc]
theorem adv_zero (q : R) : q.adv 0 = q := rfl
theorem take_here {q : R} {x l : List UInt8} (h : Here q (x ++ l)) (n : Int) (hn : n = (x.length : Nat)) : q.take n = (q.adv x.length, x) := by
  subst hn
  have hl := h.len
  rw [List.length_append] at hl
  unfold R.take
  rw [if_neg (by simpa using h.why), if_neg (by omega)]
  by_cases h0 : x.length = 0
  · have : x = [] := List.eq_nil_of_length_eq_zero h0
    subst this
    rw [if_pos (by simp)]; rfl
  · rw [if_neg (by omega), h.at', Int.toNat_natCast, List.take_left]; rfl
theorem get_here {q : R} {n k : Nat} {l : List UInt8} (h : Here q (be n k ++ l)) (hn : n < 256 ^ k) : q.get k = (q.adv k, n) := by
  have h1 := take_here h (k : Nat) (by rw [be_length])
  unfold R.get
  rw [h1, be_length]
  simp only [val_be, Nat.mod_eq_of_lt hn]
theorem text_here {q : R} {s l : List UInt8} (h : Here q (be s.length 4 ++ s ++ l)) (most : Int) (hs : (s.length : Int) ≤ most) (h4 : s.length < 4294967296) : q.text most = (q.adv (4 + s.length), s) := by
  rw [List.append_assoc] at h
  have h1 := get_here h (by simpa using h4)
  have h2 := h.adv (n := 4) (by rw [be_length])
  unfold R.text
  rw [h1]
  simp only
  rw [if_neg (by split <;> omega), take_here h2 _ rfl, adv_adv]
/-- x was read between r and q -/
structure Reads (r q : R) (x : List UInt8) : Prop where
  why : r.why = 0
  b : q.b = r.b
  pos : q.pos ≤ r.b.length
  x : r.b.take q.pos = r.b.take r.pos ++ x
theorem Reads.refl {r : R} (h : r.why = 0) (hp : r.pos ≤ r.b.length) : Reads r r [] := ⟨h, rfl, hp, by simp⟩
theorem Reads.trans {r q s : R} {x y : List UInt8} (h1 : Reads r q x) (h2 : Reads q s y) : Reads r s (x ++ y) := ⟨h1.why, h2.b.trans h1.b, by have := h2.pos; rwa [h1.b] at this, by
  have h := h2.x
  rw [h1.b, h1.x, List.append_assoc] at h; exact h⟩
theorem reads_take {r : R} (hp : r.pos ≤ r.b.length) {n : Int} (h0 : 0 ≤ n) (h : (r.take n).1.why = 0) : Reads r (r.take n).1 (r.take n).2 ∧ ((r.take n).2.length : Int) = n := by
  unfold R.take at *
  by_cases h1 : r.why = 0
  · rw [if_neg (by simpa using h1)] at *
    by_cases h2 : (r.b.length : Int) - r.pos < n
    · rw [if_pos h2] at h
      simp only [R.refuse, if_pos h1] at h; omega
    · rw [if_neg h2] at *
      by_cases h3 : n ≤ 0
      · rw [if_pos h3] at *
        exact ⟨Reads.refl h1 hp, by simp; omega⟩
      · rw [if_neg h3] at *
        refine ⟨⟨h1, rfl, by show r.pos + n.toNat ≤ r.b.length; omega, ?_⟩, by simp; omega⟩
        show r.b.take (r.pos + n.toNat) = r.b.take r.pos ++ (r.b.drop r.pos).take n.toNat
        rw [List.take_add]
  · rw [if_pos h1] at h; exact absurd h h1
theorem be_val : ∀ (l : List UInt8), be (val l) l.length = l := by
  intro l
  have key : ∀ (l : List UInt8) (m : Nat), be (m * 256 ^ l.length + val l) l.length = l := by
    intro l
    induction l with
    | nil => intro m; rfl
    | cons c r ih =>
      intro m
      have hc := UInt8.toNat_lt c
      have hv := val_lt r
      have e1 : m * 256 ^ (r.length + 1) + (c.toNat * 256 ^ r.length + val r) = (m * 256 + c.toNat) * 256 ^ r.length + val r := by
        rw [Nat.pow_succ, Nat.add_mul, Nat.add_assoc, Nat.mul_assoc, Nat.mul_comm 256]
      rw [val_cons, List.length_cons, e1, be]
      congr 1
      · rw [Nat.add_comm, Nat.add_mul_div_right _ _ (Nat.pow_pos (by decide)), Nat.div_eq_of_lt hv, Nat.zero_add]
        apply UInt8.toNat_inj.1; rw [UInt8.toNat_ofNat']; omega
      · exact ih _
  have := key l 0
  simpa using this
theorem reads_get {r : R} (hp : r.pos ≤ r.b.length) {k : Nat} (h : (r.get k).1.why = 0) : Reads r (r.get k).1 (be (r.get k).2 k) := by
  unfold R.get at *
  obtain ⟨h1, h2⟩ := reads_take hp (by omega) h
  have e : be (val (r.take (k : Int)).2) k = (r.take (k : Int)).2 := by
    have := be_val (r.take (k : Int)).2
    rwa [show (r.take (k : Int)).2.length = k by omega] at this
  simp only [e]; exact h1
theorem refuse_why {r : R} {w p : Int} (hw : w ≠ 0) (h : (r.refuse w p).why = 0) : False := by
  unfold R.refuse at h
  split at h
  · exact hw h
  · omega
theorem get_why {r : R} {k : Nat} (h : (r.get k).1.why = 0) (hp : r.pos ≤ r.b.length) : r.why = 0 := (reads_get hp h).why
theorem reads_text {r : R} (hp : r.pos ≤ r.b.length) {most : Int} (h : (r.text most).1.why = 0) : Reads r (r.text most).1 (be (r.text most).2.length 4 ++ (r.text most).2) := by
  unfold R.text at *
  by_cases hc : (if 0 > most then 0 else most) < ((r.get 4).2 : Int)
  · rw [if_pos hc] at h
    exfalso
    have h1 : ((r.get 4).1.refuse 3 r.pos).why = 0 := by
      refine Classical.byContradiction fun hn => ?_
      rw [take_why0 _ _ hn] at h; exact hn h
    exact refuse_why (by decide) h1
  · rw [if_neg hc] at *
    have hp1 : (r.get 4).1.pos ≤ (r.get 4).1.b.length := by rw [get_b]; exact get_pos r 4 hp
    obtain ⟨h1, h2⟩ := reads_take hp1 (by omega) h
    have h3 := reads_get hp h1.why
    have e : ((r.get 4).1.take ((r.get 4).2 : Nat)).2.length = (r.get 4).2 := by omega
    rw [e]; exact h3.trans h1
theorem Reads.pos' {r q : R} {x : List UInt8} (h : Reads r q x) : q.pos ≤ q.b.length := by rw [h.b]; exact h.pos

end Go.Proofs.Ytbbmhppkhcodfaa
