/-
  Plain law: attributes that are cut off are refused at their end.
-/
import Derived.Test.YtbiohhfibkolgaaPAttr
namespace Go.Proofs.Ytbiohhfibkolgaa
open Go.Sx
set_option linter.unusedVariables false
set_option linter.unusedSimpArgs false
set_option maxRecDepth 100000

/-- a reader that has refused nothing, or has met its end -/
def R.Cut (b : List UInt8) (r : R) : Prop := r.b = b ∧ r.pos ≤ b.length ∧ (r.why = 0 ∨ (r.why = 10 ∧ r.place = b.length))
theorem cut_get {b : List UInt8} {r : R} (h : r.Cut b) (n : Nat) (hn : 0 < n) : (r.get n).1.Cut b ∧ ((r.get n).1.why = 0 → r.why = 0 ∧ (r.get n).1.pos = r.pos + n ∧ r.pos + n ≤ b.length ∧ (r.get n).2 = val ((b.drop r.pos).take n)) := by
  obtain ⟨hb, hp, h⟩ := h
  subst hb
  unfold R.get R.take
  rcases h with h0 | ⟨h1, h2⟩
  · rw [if_neg (by simp [h0])]
    by_cases hl : (r.b.length : Int) - r.pos < n
    · rw [if_pos hl]
      unfold R.refuse
      simp only [if_pos h0]
      exact ⟨⟨rfl, hp, .inr ⟨rfl, rfl⟩⟩, fun h => by simp at h⟩
    · rw [if_neg hl, if_neg (by omega)]
      simp only [Int.toNat_natCast]
      exact ⟨⟨rfl, by simp only; omega, .inl h0⟩, fun _ => by refine ⟨h0, ?_, by omega, ?_⟩ <;> first | rfl | trivial⟩
  · rw [if_pos (by omega)]
    exact ⟨⟨rfl, hp, .inr ⟨h1, h2⟩⟩, fun h => by simp only at h; omega⟩
theorem cut_s1 {b : List UInt8} {r : R} {x : At} (h : r.Cut b) : (R.s1 (r, x)).1.Cut b ∧ (R.s1 (r, x)).2.f = x.f ∧ ((R.s1 (r, x)).1.why = 0 → r.why = 0 ∧ (R.s1 (r, x)).1.pos = r.pos + (if x.f &&& 1 ≠ 0 then 8 else 0)) := by
  unfold R.s1
  by_cases hf : x.f &&& 1 ≠ 0
  · rw [if_pos hf, if_pos hf]
    obtain ⟨h1, h2⟩ := cut_get h 8 (by omega)
    exact ⟨h1, rfl, fun h => ⟨(h2 h).1, (h2 h).2.1⟩⟩
  · rw [if_neg hf, if_neg hf]; exact ⟨h, rfl, fun h => ⟨h, rfl⟩⟩
theorem cut_s2 {b : List UInt8} {r : R} {x : At} (h : r.Cut b) : (R.s2 (r, x)).1.Cut b ∧ (R.s2 (r, x)).2.f = x.f ∧ ((R.s2 (r, x)).1.why = 0 → r.why = 0 ∧ (R.s2 (r, x)).1.pos = r.pos + (if x.f &&& 2 ≠ 0 then 8 else 0)) := by
  unfold R.s2
  by_cases hf : x.f &&& 2 ≠ 0
  · rw [if_pos hf, if_pos hf]
    obtain ⟨h1, h2⟩ := cut_get h 4 (by omega)
    obtain ⟨h3, h4⟩ := cut_get h1 4 (by omega)
    refine ⟨h3, rfl, fun h => ?_⟩
    have h5 := h4 h
    have h6 := h2 h5.1
    exact ⟨h6.1, by simp only; omega⟩
  · rw [if_neg hf, if_neg hf]; exact ⟨h, rfl, fun h => ⟨h, rfl⟩⟩
theorem cut_s3 {b : List UInt8} {r : R} {x : At} (h : r.Cut b) : (R.s3 (r, x)).1.Cut b ∧ (R.s3 (r, x)).2.f = x.f ∧ ((R.s3 (r, x)).1.why = 0 → r.why = 0 ∧ (R.s3 (r, x)).1.pos = r.pos + (if x.f &&& 4 ≠ 0 then 4 else 0)) := by
  unfold R.s3
  by_cases hf : x.f &&& 4 ≠ 0
  · rw [if_pos hf, if_pos hf]
    obtain ⟨h1, h2⟩ := cut_get h 4 (by omega)
    exact ⟨h1, rfl, fun h => ⟨(h2 h).1, (h2 h).2.1⟩⟩
  · rw [if_neg hf, if_neg hf]; exact ⟨h, rfl, fun h => ⟨h, rfl⟩⟩
theorem cut_s4 {b : List UInt8} {r : R} {x : At} (h : r.Cut b) : (R.s4 (r, x)).1.Cut b ∧ (R.s4 (r, x)).2.f = x.f ∧ ((R.s4 (r, x)).1.why = 0 → r.why = 0 ∧ (R.s4 (r, x)).1.pos = r.pos + (if x.f &&& 8 ≠ 0 then 8 else 0)) := by
  unfold R.s4
  by_cases hf : x.f &&& 8 ≠ 0
  · rw [if_pos hf, if_pos hf]
    obtain ⟨h1, h2⟩ := cut_get h 4 (by omega)
    obtain ⟨h3, h4⟩ := cut_get h1 4 (by omega)
    refine ⟨h3, rfl, fun h => ?_⟩
    have h5 := h4 h
    have h6 := h2 h5.1
    exact ⟨h6.1, by simp only; omega⟩
  · rw [if_neg hf, if_neg hf]; exact ⟨h, rfl, fun h => ⟨h, rfl⟩⟩
def At.need (f : Nat) : Nat := 4 + (if f &&& 1 ≠ 0 then 8 else 0) + (if f &&& 2 ≠ 0 then 8 else 0) + (if f &&& 4 ≠ 0 then 4 else 0) + (if f &&& 8 ≠ 0 then 8 else 0)
theorem enc_need (x : At) : x.enc.length = At.need x.f := by
  unfold At.enc At.need At.e1 At.e2 At.e3 At.e4
  simp only [List.length_append, be_length]
  congr 1; congr 1; congr 1; congr 1
  all_goals (split <;> simp [be_length])
/-- cut off: nothing, refused at its end -/
theorem cut_attrs (x : At) (hx : x.Ok) (hf : x.f ≤ 15) (k : Nat) (hk : k < x.enc.length) : (R.new (x.enc.take k)).attrs.2 = At.zero ∧ (R.new (x.enc.take k)).attrs.1.fin = (10, (k : Int)) ∧ (R.new (x.enc.take k)).attrs.1.b = x.enc.take k ∧ (R.new (x.enc.take k)).attrs.1.pos ≤ (x.enc.take k).length := by
  generalize hb : x.enc.take k = b
  have hl : b.length = k := by rw [← hb, List.length_take]; omega
  have h0 : (R.new b).Cut b := ⟨rfl, Nat.zero_le _, .inl rfl⟩
  obtain ⟨h1, h2⟩ := cut_get h0 4 (by omega)
  have hf4 : ((R.new b).get 4).1.why = 0 → ((R.new b).get 4).2 = x.f := fun h => by
    obtain ⟨_, _, h3, h4⟩ := h2 h
    rw [h4]
    have h3' : 4 ≤ k := by simp [R.new] at h3; omega
    have e : (b.drop (R.new b).pos).take 4 = be x.f 4 := by
      show (b.drop 0).take 4 = _
      rw [List.drop_zero, ← hb, List.take_take, Nat.min_eq_left h3']
      unfold At.enc
      simp only [List.append_assoc]
      exact List.take_left' (be_length x.f 4)
    rw [e, val_be, Nat.mod_eq_of_lt hx.f]
  have hz : ¬ ((R.new b).get 4).1.why = 0 → ((R.new b).get 4).2 = 0 := fun h => by
    unfold R.get R.take at h ⊢
    split
    · rfl
    · split
      · rfl
      · split
        · rfl
        · rename_i a1 a2 a3; exact absurd (by rw [if_neg a1, if_neg a2, if_neg a3]; simpa using a1) h
  have hg : R.gate ((R.new b).get 4).1 ((R.new b).get 4).2 = ((R.new b).get 4).1 := by
    unfold R.gate
    by_cases h : ((R.new b).get 4).1.why = 0
    · rw [hf4 h, if_neg (by omega)]
    · rw [hz h, if_neg (by omega)]
  have fin10 : ∀ r : R, r.Cut b → ¬ r.why = 0 → r.fin = (10, (k : Int)) ∧ r.why = 10 := fun r hr hw => by
    obtain ⟨_, _, h | ⟨h, h'⟩⟩ := hr
    · exact absurd h hw
    · unfold R.fin; rw [if_neg hw, h, h', hl]; exact ⟨rfl, rfl⟩
  have cutb : ∀ r : R, r.Cut b → r.b = b := fun r hr => hr.1
  unfold R.attrs
  rw [hg]
  by_cases hw : ((R.new b).get 4).1.why = 0
  · rw [if_neg (by simp [hw])]
    rw [hf4 hw]
    obtain ⟨_, hp, _, _⟩ := h2 hw
    unfold R.body
    generalize hr1 : ((R.new b).get 4).1 = r1 at *
    obtain ⟨a1, a2, a3⟩ := cut_s1 (x := { At.zero with f := x.f }) h1
    generalize hq1 : R.s1 (r1, { At.zero with f := x.f }) = q1 at *
    obtain ⟨b1, b2, b3⟩ := cut_s2 (x := q1.2) a1
    generalize hq2 : R.s2 q1 = q2 at *
    obtain ⟨c1, c2, c3⟩ := cut_s3 (x := q2.2) b1
    generalize hq3 : R.s3 q2 = q3 at *
    obtain ⟨d1, d2, d3⟩ := cut_s4 (x := q3.2) c1
    generalize hq4 : R.s4 q3 = q4 at *
    have hne : ¬ q4.1.why = 0 := fun h => by
      obtain ⟨d4, d5⟩ := d3 h
      obtain ⟨c4, c5⟩ := c3 d4
      obtain ⟨b4, b5⟩ := b3 c4
      obtain ⟨a4, a5⟩ := a3 b4
      have e : q4.1.pos = At.need x.f := by
        rw [d5, c5, b5, a5, hp, c2, b2, a2]
        show 0 + 4 + _ + _ + _ + _ = _
        unfold At.need; simp
      have h' := d1.2.1
      rw [enc_need] at hk; omega
    rw [if_pos hne]
    exact ⟨rfl, (fin10 _ d1 hne).1, d1.1, d1.2.1⟩
  · rw [if_pos hw]
    exact ⟨rfl, (fin10 _ h1 hw).1, h1.1, h1.2.1⟩
end Go.Proofs.Ytbiohhfibkolgaa
