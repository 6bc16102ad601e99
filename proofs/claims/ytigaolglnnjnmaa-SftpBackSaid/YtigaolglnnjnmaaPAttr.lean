/-
  Plain laws on attributes and their bytes.
-/
import Derived.Test.YtigaolglnnjnmaaAttrGet
import Derived.Test.YtigaolglnnjnmaaPVal
namespace Go.Proofs.Ytigaolglnnjnmaa
open Go.Sx
set_option linter.unusedVariables false
set_option linter.unusedSimpArgs false
set_option maxRecDepth 100000

/-- a number is read where it stands -/
theorem get_at {pre post : List UInt8} {n k : Nat} {pl : Int} (hk : 0 < k) (hn : n < 256 ^ k) :
    R.get ⟨pre ++ (be n k ++ post), pre.length, 0, pl⟩ k = (⟨pre ++ (be n k ++ post), pre.length + k, 0, pl⟩, n) := by
  have ht : R.take ⟨pre ++ (be n k ++ post), pre.length, 0, pl⟩ (k : Int) = (⟨pre ++ (be n k ++ post), pre.length + k, 0, pl⟩, be n k) := by
    unfold R.take
    rw [if_neg (by simp), if_neg (by simp [be_length]; omega), if_neg (by omega)]
    have e1 : ((pre ++ (be n k ++ post)).drop pre.length).take k = be n k := by
      rw [List.drop_left]
      exact List.take_left' (be_length n k)
    simp only [Int.toNat_natCast, e1]
  simp only [R.get, ht, val_be, Nat.mod_eq_of_lt hn]
theorem bit_or (a b k : Nat) : (a ||| b) &&& k ≠ 0 ↔ a &&& k ≠ 0 ∨ b &&& k ≠ 0 := by
  rw [Nat.and_or_distrib_right]
  constructor
  · intro h
    by_cases h1 : a &&& k = 0
    · right; intro h2; rw [h1, h2] at h; exact h rfl
    · exact .inl h1
  · rintro (h | h) e
    · exact h (Nat.eq_zero_of_le_zero (e ▸ Nat.left_le_or))
    · exact h (Nat.eq_zero_of_le_zero (e ▸ Nat.right_le_or))
/-- what a right one is -/
structure At.Good (x : At) : Prop where
  f : x.f ≤ 15
  s : x.f &&& 1 = 0 → x.s = 0
  u : x.f &&& 2 = 0 → x.u = 0
  g : x.f &&& 2 = 0 → x.g = 0
  m : x.f &&& 4 = 0 → x.m = 0
  a : x.f &&& 8 = 0 → x.a = 0
  t : x.f &&& 8 = 0 → x.t = 0
theorem merge_fields (x y : At) : x.merge y = ⟨x.f ||| y.f, if y.f &&& 1 ≠ 0 then y.s else x.s, if y.f &&& 2 ≠ 0 then y.u else x.u, if y.f &&& 2 ≠ 0 then y.g else x.g,
    if y.f &&& 4 ≠ 0 then y.m else x.m, if y.f &&& 8 ≠ 0 then y.a else x.a, if y.f &&& 8 ≠ 0 then y.t else x.t⟩ := by
  unfold At.merge At.m5 At.m4 At.m3 At.m2 At.m1
  by_cases h1 : y.f &&& 1 = 0 <;> by_cases h2 : y.f &&& 2 = 0 <;> by_cases h3 : y.f &&& 4 = 0 <;> by_cases h4 : y.f &&& 8 = 0 <;> simp only [h1, h2, h3, h4, ne_eq, not_true_eq_false, not_false_eq_true, if_true, if_false]
theorem right_good (x : At) : x.right = true ↔ x.Good := by
  unfold At.right
  rw [merge_fields, Bool.and_eq_true, decide_eq_true_eq, decide_eq_true_eq]
  obtain ⟨f, s, u, g, m, a, t⟩ := x
  simp only [At.zero, At.mk.injEq, Nat.zero_or, true_and]
  constructor
  · rintro ⟨h0, h1, h2, h3, h4, h5, h6⟩
    exact ⟨h0, fun h => by rw [if_neg (by simpa only [ne_eq, Classical.not_not] using h)] at h1; exact h1.symm, fun h => by rw [if_neg (by simpa only [ne_eq, Classical.not_not] using h)] at h2; exact h2.symm, fun h => by rw [if_neg (by simpa only [ne_eq, Classical.not_not] using h)] at h3; exact h3.symm, fun h => by rw [if_neg (by simpa only [ne_eq, Classical.not_not] using h)] at h4; exact h4.symm, fun h => by rw [if_neg (by simpa only [ne_eq, Classical.not_not] using h)] at h5; exact h5.symm, fun h => by rw [if_neg (by simpa only [ne_eq, Classical.not_not] using h)] at h6; exact h6.symm⟩
  · rintro ⟨h0, h1, h2, h3, h4, h5, h6⟩
    have hn : ∀ {p : Nat}, ¬ p ≠ 0 → p = 0 := fun h => Classical.not_not.1 h
    have key : ∀ {k v : Nat}, (f &&& k = 0 → v = 0) → (if f &&& k ≠ 0 then v else 0) = v := fun {k v} h => by
      by_cases hk : f &&& k = 0
      · rw [if_neg (by simpa only [ne_eq, Classical.not_not] using hk)]; exact (h hk).symm
      · rw [if_pos hk]
    exact ⟨h0, key h1, key h2, key h3, key h4, key h5, key h6⟩
theorem merge_good {x y : At} (hx : x.Good) (hy : y.Good) : (x.merge y).Good := by
  rw [merge_fields]
  have hb := fun k => bit_or x.f y.f k
  have hz : ∀ k, (x.f ||| y.f) &&& k = 0 → x.f &&& k = 0 ∧ y.f &&& k = 0 := fun k h =>
    ⟨Classical.byContradiction fun h1 => (hb k).2 (.inl h1) h, Classical.byContradiction fun h1 => (hb k).2 (.inr h1) h⟩
  refine ⟨?_, ?_, ?_, ?_, ?_, ?_, ?_⟩
  · have := Nat.or_lt_two_pow (n := 4) (x := x.f) (y := y.f) (by have := hx.f; omega) (by have := hy.f; omega)
    simp only; omega
  all_goals
    intro h
    simp only at h ⊢
    obtain ⟨h1, h2⟩ := hz _ h
    simp only [h2, ne_eq, not_true_eq_false, if_false]
  · exact hx.s h1
  · exact hx.u h1
  · exact hx.g h1
  · exact hx.m h1
  · exact hx.a h1
  · exact hx.t h1
theorem merge_self (x : At) : x.merge x = x := by
  rw [merge_fields]; obtain ⟨f, s, u, g, m, a, t⟩ := x; simp
theorem merge_zero (x : At) : x.merge At.zero = x := by
  rw [merge_fields]; obtain ⟨f, s, u, g, m, a, t⟩ := x; simp [At.zero]
theorem zero_merge {x : At} (h : x.Good) : At.zero.merge x = x := by
  have := (right_good x).2 h
  unfold At.right at this; simp at this; exact this.2
theorem merge_again (x y : At) : (x.merge y).merge y = x.merge y := by
  rw [merge_fields (x.merge y) y]
  rw [merge_fields x y]
  simp only [At.mk.injEq]
  refine ⟨by rw [Nat.or_assoc, Nat.or_self], ?_, ?_, ?_, ?_, ?_, ?_⟩ <;> (split <;> rfl)
/-- right attributes come back -/
theorem attrs_enc (x : At) (hx : x.Ok) (hg : x.Good) (l : List UInt8) : (R.new (x.enc ++ l)).attrs = (⟨x.enc ++ l, x.enc.length, 0, 0⟩, x) := by
  have e0 : x.enc ++ l = [] ++ (be x.f 4 ++ (x.e1 ++ x.e2 ++ x.e3 ++ x.e4 ++ l)) := by simp [At.enc]
  have g0 : R.get (R.new (x.enc ++ l)) 4 = (⟨x.enc ++ l, 4, 0, 0⟩, x.f) := by
    unfold R.new; rw [e0]; exact get_at (pre := []) (by omega) hx.f
  generalize hB : x.enc ++ l = B at *
  have gate : R.gate ⟨B, 4, 0, 0⟩ x.f = ⟨B, 4, 0, 0⟩ := by unfold R.gate; rw [if_neg (by have := hg.f; omega)]
  have p1 : R.s1 (⟨B, 4, 0, 0⟩, { At.zero with f := x.f }) = (⟨B, 4 + x.e1.length, 0, 0⟩, { At.zero with f := x.f, s := x.s }) := by
    unfold R.s1 At.e1
    by_cases h : x.f &&& 1 = 0
    · simp only [h, ne_eq, not_true_eq_false, if_false]; rw [hg.s h]; rfl
    · simp only [h, ne_eq, not_false_eq_true, if_true]
      have e : B = be x.f 4 ++ (be x.s 8 ++ (x.e2 ++ x.e3 ++ x.e4 ++ l)) := by rw [← hB, At.enc, At.e1, if_pos h]; simp only [List.append_assoc]
      have := get_at (pre := be x.f 4) (post := x.e2 ++ x.e3 ++ x.e4 ++ l) (n := x.s) (k := 8) (pl := 0) (by omega) hx.s
      rw [← e, be_length] at this
      rw [this, be_length]
  have p2 : R.s2 (⟨B, 4 + x.e1.length, 0, 0⟩, { At.zero with f := x.f, s := x.s }) = (⟨B, 4 + x.e1.length + x.e2.length, 0, 0⟩, { At.zero with f := x.f, s := x.s, u := x.u, g := x.g }) := by
    unfold R.s2 At.e2
    by_cases h : x.f &&& 2 = 0
    · simp only [h, ne_eq, not_true_eq_false, if_false]; rw [hg.u h, hg.g h]; rfl
    · simp only [h, ne_eq, not_false_eq_true, if_true]
      have e : B = (be x.f 4 ++ x.e1) ++ (be x.u 4 ++ (be x.g 4 ++ (x.e3 ++ x.e4 ++ l))) := by rw [← hB, At.enc, At.e2, if_pos h]; simp only [List.append_assoc]
      have e' : B = (be x.f 4 ++ x.e1 ++ be x.u 4) ++ (be x.g 4 ++ (x.e3 ++ x.e4 ++ l)) := by rw [e]; simp
      have a1 := get_at (pre := be x.f 4 ++ x.e1) (post := be x.g 4 ++ (x.e3 ++ x.e4 ++ l)) (n := x.u) (k := 4) (pl := 0) (by omega) hx.u
      have a2 := get_at (pre := be x.f 4 ++ x.e1 ++ be x.u 4) (post := x.e3 ++ x.e4 ++ l) (n := x.g) (k := 4) (pl := 0) (by omega) hx.g
      rw [← e] at a1; rw [← e'] at a2
      simp only [List.length_append, be_length] at a1 a2 ⊢
      rw [a1]; simp only; rw [a2]
  have p3 : R.s3 (⟨B, 4 + x.e1.length + x.e2.length, 0, 0⟩, { At.zero with f := x.f, s := x.s, u := x.u, g := x.g }) = (⟨B, 4 + x.e1.length + x.e2.length + x.e3.length, 0, 0⟩, { At.zero with f := x.f, s := x.s, u := x.u, g := x.g, m := x.m }) := by
    unfold R.s3 At.e3
    by_cases h : x.f &&& 4 = 0
    · simp only [h, ne_eq, not_true_eq_false, if_false]; rw [hg.m h]; rfl
    · simp only [h, ne_eq, not_false_eq_true, if_true]
      have e : B = (be x.f 4 ++ x.e1 ++ x.e2) ++ (be x.m 4 ++ (x.e4 ++ l)) := by rw [← hB, At.enc, At.e3, if_pos h]; simp only [List.append_assoc]
      have a1 := get_at (pre := be x.f 4 ++ x.e1 ++ x.e2) (post := x.e4 ++ l) (n := x.m) (k := 4) (pl := 0) (by omega) hx.m
      rw [← e] at a1
      simp only [List.length_append, be_length] at a1 ⊢
      rw [a1]
  have p4 : R.s4 (⟨B, 4 + x.e1.length + x.e2.length + x.e3.length, 0, 0⟩, { At.zero with f := x.f, s := x.s, u := x.u, g := x.g, m := x.m }) = (⟨B, 4 + x.e1.length + x.e2.length + x.e3.length + x.e4.length, 0, 0⟩, x) := by
    unfold R.s4 At.e4
    by_cases h : x.f &&& 8 = 0
    · simp only [h, ne_eq, not_true_eq_false, if_false]
      have h1 := hg.a h; have h2 := hg.t h
      obtain ⟨f, s, u, g, m, a, t⟩ := x; simp only at h1 h2; subst h1; subst h2; rfl
    · simp only [h, ne_eq, not_false_eq_true, if_true]
      have e : B = (be x.f 4 ++ x.e1 ++ x.e2 ++ x.e3) ++ (be x.a 4 ++ (be x.t 4 ++ l)) := by rw [← hB, At.enc, At.e4, if_pos h]; simp only [List.append_assoc]
      have e' : B = (be x.f 4 ++ x.e1 ++ x.e2 ++ x.e3 ++ be x.a 4) ++ (be x.t 4 ++ l) := by rw [e]; simp
      have a1 := get_at (pre := be x.f 4 ++ x.e1 ++ x.e2 ++ x.e3) (post := be x.t 4 ++ l) (n := x.a) (k := 4) (pl := 0) (by omega) hx.a
      have a2 := get_at (pre := be x.f 4 ++ x.e1 ++ x.e2 ++ x.e3 ++ be x.a 4) (post := l) (n := x.t) (k := 4) (pl := 0) (by omega) hx.t
      rw [← e] at a1; rw [← e'] at a2
      simp only [List.length_append, be_length] at a1 a2 ⊢
      rw [a1]; simp only; rw [a2]
  have body : R.body ⟨B, 4, 0, 0⟩ { At.zero with f := x.f } = (⟨B, 4 + x.e1.length + x.e2.length + x.e3.length + x.e4.length, 0, 0⟩, x) := by
    unfold R.body; rw [p1, p2, p3, p4]
  have hl : x.enc.length = 4 + x.e1.length + x.e2.length + x.e3.length + x.e4.length := by simp only [At.enc, List.length_append, be_length]
  unfold R.attrs
  rw [g0]; simp only [gate, body, ne_eq, not_true_eq_false, if_false, hl]
end Go.Proofs.Ytigaolglnnjnmaa
