/-
  Requests: bytes that are read as one are those that are written for it.
-/
import Derived.Test.YtigaolglnnjnmaaSfB
import Derived.Test.YtigaolglnnjnmaaRPure
namespace Go.Proofs.Ytigaolglnnjnmaa
open Go.Sx
set_option linter.unusedVariables false
set_option linter.unusedSimpArgs false
set_option maxRecDepth 100000
set_option maxHeartbeats 4000000

theorem text_le {r : R} {most : Int} (h0 : 0 ≤ most) (hp : r.pos ≤ r.b.length) (h : (r.text most).1.why = 0) : ((r.text most).2.length : Int) ≤ most := by
  unfold R.text at *
  by_cases hc : (if 0 > most then 0 else most) < ((r.get 4).2 : Int)
  · rw [if_pos hc] at h
    exfalso
    have h1 : ((r.get 4).1.refuse 3 r.pos).why = 0 := by
      refine Classical.byContradiction fun hn => ?_
      rw [take_why0 _ _ hn] at h; exact hn h
    exact refuse_why (by decide) h1
  · rw [if_neg hc] at *
    have hp1 : (r.get 4).1.pos ≤ (r.get 4).1.b.length := by rw [get_b]; exact get_pos r 4 hp
    obtain ⟨h1, h2⟩ := reads_take hp1 (by omega) h
    rw [if_neg (by omega)] at hc
    omega
theorem fail_why {r : R} {w : Int} (hw : w ≠ 0) : (r.fail w).why ≠ 0 := by
  unfold R.fail; rw [if_neg hw]
  intro h; exact refuse_why hw h


theorem s1_reads {r : R} {x : At} (hg : r.Good) (h : (R.s1 (r, x)).1.why = 0) : ∃ vs, (R.s1 (r, x)).2 = { x with s := vs } ∧ Reads r (R.s1 (r, x)).1 (At.e1 { x with s := vs }) ∧ (x.f &&& 1 = 0 → vs = x.s) ∧ (vs < 18446744073709551616 ∨ vs = x.s) ∧ (R.s1 (r, x)).1.Good := by
  unfold R.s1 at *
  by_cases hf : x.f &&& 1 ≠ 0
  · skip
    simp only [if_pos hf] at *
    refine ⟨(r.get 8).2, rfl, ?_, fun h => absurd h hf, .inl (get_lt r 8), R.good_get hg 8⟩
    unfold At.e1
    simp only [if_pos hf]
    exact reads_get hg.pos h
  · skip
    simp only [if_neg hf] at *
    refine ⟨x.s, rfl, ?_, fun _ => rfl, .inr rfl, hg⟩
    unfold At.e1
    simp only [if_neg hf]
    exact Reads.refl h hg.pos


theorem s2_reads {r : R} {x : At} (hg : r.Good) (h : (R.s2 (r, x)).1.why = 0) : ∃ vu vg, (R.s2 (r, x)).2 = { x with u := vu, g := vg } ∧ Reads r (R.s2 (r, x)).1 (At.e2 { x with u := vu, g := vg }) ∧ (x.f &&& 2 = 0 → vu = x.u) ∧ (x.f &&& 2 = 0 → vg = x.g) ∧ (vu < 4294967296 ∨ vu = x.u) ∧ (vg < 4294967296 ∨ vg = x.g) ∧ (R.s2 (r, x)).1.Good := by
  unfold R.s2 at *
  by_cases hf : x.f &&& 2 ≠ 0
  · skip
    simp only [if_pos hf] at *
    refine ⟨(r.get 4).2, ((r.get 4).1.get 4).2, rfl, ?_, fun h => absurd h hf, fun h => absurd h hf, .inl (get_lt r 4), .inl (get_lt _ 4), R.good_get (R.good_get hg 4) 4⟩
    unfold At.e2
    simp only [if_pos hf]
    exact (reads_get hg.pos (get_why h (R.good_get hg 4).pos)).trans (reads_get (R.good_get hg 4).pos h)
  · skip
    simp only [if_neg hf] at *
    refine ⟨x.u, x.g, rfl, ?_, fun _ => rfl, fun _ => rfl, .inr rfl, .inr rfl, hg⟩
    unfold At.e2
    simp only [if_neg hf]
    exact Reads.refl h hg.pos


theorem s3_reads {r : R} {x : At} (hg : r.Good) (h : (R.s3 (r, x)).1.why = 0) : ∃ vm, (R.s3 (r, x)).2 = { x with m := vm } ∧ Reads r (R.s3 (r, x)).1 (At.e3 { x with m := vm }) ∧ (x.f &&& 4 = 0 → vm = x.m) ∧ (vm < 4294967296 ∨ vm = x.m) ∧ (R.s3 (r, x)).1.Good := by
  unfold R.s3 at *
  by_cases hf : x.f &&& 4 ≠ 0
  · skip
    simp only [if_pos hf] at *
    refine ⟨(r.get 4).2, rfl, ?_, fun h => absurd h hf, .inl (get_lt r 4), R.good_get hg 4⟩
    unfold At.e3
    simp only [if_pos hf]
    exact reads_get hg.pos h
  · skip
    simp only [if_neg hf] at *
    refine ⟨x.m, rfl, ?_, fun _ => rfl, .inr rfl, hg⟩
    unfold At.e3
    simp only [if_neg hf]
    exact Reads.refl h hg.pos


theorem s4_reads {r : R} {x : At} (hg : r.Good) (h : (R.s4 (r, x)).1.why = 0) : ∃ va vt, (R.s4 (r, x)).2 = { x with a := va, t := vt } ∧ Reads r (R.s4 (r, x)).1 (At.e4 { x with a := va, t := vt }) ∧ (x.f &&& 8 = 0 → va = x.a) ∧ (x.f &&& 8 = 0 → vt = x.t) ∧ (va < 4294967296 ∨ va = x.a) ∧ (vt < 4294967296 ∨ vt = x.t) ∧ (R.s4 (r, x)).1.Good := by
  unfold R.s4 at *
  by_cases hf : x.f &&& 8 ≠ 0
  · skip
    simp only [if_pos hf] at *
    refine ⟨(r.get 4).2, ((r.get 4).1.get 4).2, rfl, ?_, fun h => absurd h hf, fun h => absurd h hf, .inl (get_lt r 4), .inl (get_lt _ 4), R.good_get (R.good_get hg 4) 4⟩
    unfold At.e4
    simp only [if_pos hf]
    exact (reads_get hg.pos (get_why h (R.good_get hg 4).pos)).trans (reads_get (R.good_get hg 4).pos h)
  · skip
    simp only [if_neg hf] at *
    refine ⟨x.a, x.t, rfl, ?_, fun _ => rfl, fun _ => rfl, .inr rfl, .inr rfl, hg⟩
    unfold At.e4
    simp only [if_neg hf]
    exact Reads.refl h hg.pos


theorem s1_good {q : R × At} (h : q.1.Good) : (R.s1 q).1.Good := by unfold R.s1; split; exact R.good_get h 8; exact h
theorem s2_good {q : R × At} (h : q.1.Good) : (R.s2 q).1.Good := by unfold R.s2; split; exact R.good_get (R.good_get h 4) 4; exact h
theorem s3_good {q : R × At} (h : q.1.Good) : (R.s3 q).1.Good := by unfold R.s3; split; exact R.good_get h 4; exact h
theorem s4_good {q : R × At} (h : q.1.Good) : (R.s4 q).1.Good := by unfold R.s4; split; exact R.good_get (R.good_get h 4) 4; exact h
theorem reads_attrs {r : R} (hg : r.Good) (h : r.attrs.1.why = 0) : Reads r r.attrs.1 r.attrs.2.enc ∧ r.attrs.2.Good ∧ r.attrs.2.Ok := by
  have hlt := get_lt r 4
  simp only [Nat.reducePow] at hlt
  have hg1 := R.good_get hg 4
  unfold R.attrs at *
  by_cases hf : 15 < (r.get 4).2
  · exfalso
    have e : R.gate (r.get 4).1 (r.get 4).2 = (r.get 4).1.fail 12 := by unfold R.gate; rw [if_pos hf]
    rw [e] at h
    have hn : ((r.get 4).1.fail 12).why ≠ 0 := fail_why (by decide)
    rw [if_pos hn] at h; exact hn h
  · have e : R.gate (r.get 4).1 (r.get 4).2 = (r.get 4).1 := by unfold R.gate; rw [if_neg hf]
    rw [e] at h ⊢
    by_cases h1 : (r.get 4).1.why = 0
    · rw [if_neg (by simpa using h1)] at h ⊢
      by_cases h2 : ((r.get 4).1.body { At.zero with f := (r.get 4).2 }).1.why = 0
      · rw [if_neg (by simpa using h2)] at h ⊢
        have hr0 := reads_get hg.pos h1
        generalize e0 : r.get 4 = t0 at *
        obtain ⟨r1, f⟩ := t0
        simp only at *
        unfold R.body at *
        obtain ⟨⟨q1, x1⟩, y1⟩ : ∃ z, z = R.s1 (r1, { At.zero with f := f }) := ⟨_, rfl⟩
        obtain ⟨⟨q2, x2⟩, y2⟩ : ∃ z, z = R.s2 (q1, x1) := ⟨_, rfl⟩
        obtain ⟨⟨q3, x3⟩, y3⟩ : ∃ z, z = R.s3 (q2, x2) := ⟨_, rfl⟩
        obtain ⟨⟨q4, x4⟩, y4⟩ : ∃ z, z = R.s4 (q3, x3) := ⟨_, rfl⟩
        rw [← y1, ← y2, ← y3, ← y4] at h ⊢
        have g1 : q1.Good := by have := s1_good (q := (r1, { At.zero with f := f })) hg1; rw [← y1] at this; exact this
        have g2 : q2.Good := by have := s2_good (q := (q1, x1)) g1; rw [← y2] at this; exact this
        have g3 : q3.Good := by have := s3_good (q := (q2, x2)) g2; rw [← y3] at this; exact this
        have w4 : (R.s4 (q3, x3)).1.why = 0 := by rw [← y4]; exact h
        obtain ⟨va, vt, p4, r4, za, zt, ba, bt, _⟩ := s4_reads g3 w4
        have w3 : (R.s3 (q2, x2)).1.why = 0 := by rw [← y3]; exact r4.why
        obtain ⟨vm, p3, r3, zm, bm, _⟩ := s3_reads g2 w3
        have w2 : (R.s2 (q1, x1)).1.why = 0 := by rw [← y2]; exact r3.why
        obtain ⟨vu, vg, p2, r2, zu, zg, bu, bg, _⟩ := s2_reads g1 w2
        have w1 : (R.s1 (r1, { At.zero with f := f })).1.why = 0 := by rw [← y1]; exact r2.why
        obtain ⟨vs, p1, rr1, zs, bs, _⟩ := s1_reads hg1 w1
        rw [← y1] at p1 rr1; rw [← y2] at p2 r2; rw [← y3] at p3 r3; rw [← y4] at p4 r4
        simp only at p1 p2 p3 p4 rr1 r2 r3 r4
        subst p1; subst p2; subst p3; subst p4
        have hR := (((hr0.trans rr1).trans r2).trans r3).trans r4
        refine ⟨hR, ⟨by show f ≤ 15; omega, ?_, ?_, ?_, ?_, ?_, ?_⟩, ⟨hlt, ?_, ?_, ?_, ?_, ?_, ?_⟩⟩
        · exact zs
        · exact zu
        · exact zg
        · exact zm
        · exact za
        · exact zt
        · rcases bs with b | b; exact b; (have b' : vs = 0 := b); show vs < 18446744073709551616; omega
        · rcases bu with b | b; exact b; (have b' : vu = 0 := b); show vu < 4294967296; omega
        · rcases bg with b | b; exact b; (have b' : vg = 0 := b); show vg < 4294967296; omega
        · rcases bm with b | b; exact b; (have b' : vm = 0 := b); show vm < 4294967296; omega
        · rcases ba with b | b; exact b; (have b' : va = 0 := b); show va < 4294967296; omega
        · rcases bt with b | b; exact b; (have b' : vt = 0 := b); show vt < 4294967296; omega
      · rw [if_pos h2] at h; exact absurd h h2
    · rw [if_pos h1] at h; exact absurd h h1


theorem d1_reads {a : Ax} {r r' : R} {c c' : Rc} (hg : r.Good) (e : (r', c') = d1 a (r, c)) : r'.Good ∧ (r'.why = 0 → r.why = 0 ∧ ∃ v : List UInt8, c' = { c with pa := v } ∧ Reads r r' (opt a.pa (txB v)) ∧ (a.pa = true → v.length ≤ 256) ∧ (¬ a.pa = true → v = c.pa)) := by
  unfold d1 at e
  by_cases ha : a.pa = true
  · rw [if_pos ha] at e
    simp only [Prod.mk.injEq] at e
    obtain ⟨rfl, rfl⟩ := e
    refine ⟨R.good_text hg 256, fun h => ⟨(reads_text hg.pos h).why, _, rfl, ?_, fun _ => (by have h9 := text_le (by decide) hg.pos h; omega), fun h => absurd ha h⟩⟩
    rw [opt_t ha]; exact reads_text hg.pos h
  · rw [if_neg ha] at e
    simp only [Prod.mk.injEq] at e
    obtain ⟨rfl, rfl⟩ := e
    refine ⟨hg, fun h => ⟨h, c'.pa, rfl, ?_, fun h => absurd h ha, fun _ => rfl⟩⟩
    rw [opt_f ha]; exact Reads.refl h hg.pos


theorem d2_reads {a : Ax} {r r' : R} {c c' : Rc} (hg : r.Good) (e : (r', c') = d2 a (r, c)) : r'.Good ∧ (r'.why = 0 → r.why = 0 ∧ ∃ v : List UInt8, c' = { c with to := v } ∧ Reads r r' (opt a.to (txB v)) ∧ (a.to = true → v.length ≤ 256) ∧ (¬ a.to = true → v = c.to)) := by
  unfold d2 at e
  by_cases ha : a.to = true
  · rw [if_pos ha] at e
    simp only [Prod.mk.injEq] at e
    obtain ⟨rfl, rfl⟩ := e
    refine ⟨R.good_text hg 256, fun h => ⟨(reads_text hg.pos h).why, _, rfl, ?_, fun _ => (by have h9 := text_le (by decide) hg.pos h; omega), fun h => absurd ha h⟩⟩
    rw [opt_t ha]; exact reads_text hg.pos h
  · rw [if_neg ha] at e
    simp only [Prod.mk.injEq] at e
    obtain ⟨rfl, rfl⟩ := e
    refine ⟨hg, fun h => ⟨h, c'.to, rfl, ?_, fun h => absurd h ha, fun _ => rfl⟩⟩
    rw [opt_f ha]; exact Reads.refl h hg.pos


theorem d3_reads {a : Ax} {r r' : R} {c c' : Rc} (hg : r.Good) (e : (r', c') = d3 a (r, c)) : r'.Good ∧ (r'.why = 0 → r.why = 0 ∧ ∃ v : List UInt8, c' = { c with ha := v } ∧ Reads r r' (opt a.ha (txB v)) ∧ (a.ha = true → v.length ≤ 256) ∧ (¬ a.ha = true → v = c.ha)) := by
  unfold d3 at e
  by_cases ha : a.ha = true
  · rw [if_pos ha] at e
    simp only [Prod.mk.injEq] at e
    obtain ⟨rfl, rfl⟩ := e
    refine ⟨R.good_text hg 256, fun h => ⟨(reads_text hg.pos h).why, _, rfl, ?_, fun _ => (by have h9 := text_le (by decide) hg.pos h; omega), fun h => absurd ha h⟩⟩
    rw [opt_t ha]; exact reads_text hg.pos h
  · rw [if_neg ha] at e
    simp only [Prod.mk.injEq] at e
    obtain ⟨rfl, rfl⟩ := e
    refine ⟨hg, fun h => ⟨h, c'.ha, rfl, ?_, fun h => absurd h ha, fun _ => rfl⟩⟩
    rw [opt_f ha]; exact Reads.refl h hg.pos


theorem d4_reads {a : Ax} {r r' : R} {c c' : Rc} (hg : r.Good) (e : (r', c') = d4 a (r, c)) : r'.Good ∧ (r'.why = 0 → r.why = 0 ∧ ∃ v : Nat, c' = { c with off := v } ∧ Reads r r' (opt a.off (be v 8)) ∧ (a.off = true → v < 18446744073709551616) ∧ (¬ a.off = true → v = c.off)) := by
  unfold d4 at e
  by_cases ha : a.off = true
  · rw [if_pos ha] at e
    simp only [Prod.mk.injEq] at e
    obtain ⟨rfl, rfl⟩ := e
    refine ⟨R.good_get hg 8, fun h => ⟨(reads_get hg.pos h).why, _, rfl, ?_, fun _ => (get_lt r 8), fun h => absurd ha h⟩⟩
    rw [opt_t ha]; exact reads_get hg.pos h
  · rw [if_neg ha] at e
    simp only [Prod.mk.injEq] at e
    obtain ⟨rfl, rfl⟩ := e
    refine ⟨hg, fun h => ⟨h, c'.off, rfl, ?_, fun h => absurd h ha, fun _ => rfl⟩⟩
    rw [opt_f ha]; exact Reads.refl h hg.pos


theorem d5_reads {a : Ax} {r r' : R} {c c' : Rc} (hg : r.Good) (e : (r', c') = d5 a (r, c)) : r'.Good ∧ (r'.why = 0 → r.why = 0 ∧ ∃ v : Nat, c' = { c with len := v } ∧ Reads r r' (opt a.len (be v 4)) ∧ (a.len = true → v < 4294967296) ∧ (¬ a.len = true → v = c.len)) := by
  unfold d5 at e
  by_cases ha : a.len = true
  · rw [if_pos ha] at e
    simp only [Prod.mk.injEq] at e
    obtain ⟨rfl, rfl⟩ := e
    refine ⟨R.good_get hg 4, fun h => ⟨(reads_get hg.pos h).why, _, rfl, ?_, fun _ => (get_lt r 4), fun h => absurd ha h⟩⟩
    rw [opt_t ha]; exact reads_get hg.pos h
  · rw [if_neg ha] at e
    simp only [Prod.mk.injEq] at e
    obtain ⟨rfl, rfl⟩ := e
    refine ⟨hg, fun h => ⟨h, c'.len, rfl, ?_, fun h => absurd h ha, fun _ => rfl⟩⟩
    rw [opt_f ha]; exact Reads.refl h hg.pos


theorem d6_reads {a : Ax} {r r' : R} {c c' : Rc} (hg : r.Good) (e : (r', c') = d6 a (r, c)) : r'.Good ∧ (r'.why = 0 → r.why = 0 ∧ ∃ v : List UInt8, c' = { c with da := v } ∧ Reads r r' (opt a.da (txB v)) ∧ (a.da = true → v.length ≤ 32768) ∧ (¬ a.da = true → v = c.da)) := by
  unfold d6 at e
  by_cases ha : a.da = true
  · rw [if_pos ha] at e
    simp only [Prod.mk.injEq] at e
    obtain ⟨rfl, rfl⟩ := e
    refine ⟨R.good_text hg 32768, fun h => ⟨(reads_text hg.pos h).why, _, rfl, ?_, fun _ => (by have h9 := text_le (by decide) hg.pos h; omega), fun h => absurd ha h⟩⟩
    rw [opt_t ha]; exact reads_text hg.pos h
  · rw [if_neg ha] at e
    simp only [Prod.mk.injEq] at e
    obtain ⟨rfl, rfl⟩ := e
    refine ⟨hg, fun h => ⟨h, c'.da, rfl, ?_, fun h => absurd h ha, fun _ => rfl⟩⟩
    rw [opt_f ha]; exact Reads.refl h hg.pos


theorem d7_reads {a : Ax} {r r' : R} {c c' : Rc} (hg : r.Good) (e : (r', c') = d7 a (r, c)) : r'.Good ∧ (r'.why = 0 → r.why = 0 ∧ ∃ v : Nat, c' = { c with fl := v } ∧ Reads r r' (opt a.fl (be v 4)) ∧ (a.fl = true → v < 4294967296) ∧ (¬ a.fl = true → v = c.fl)) := by
  unfold d7 at e
  by_cases ha : a.fl = true
  · rw [if_pos ha] at e
    simp only [Prod.mk.injEq] at e
    obtain ⟨rfl, rfl⟩ := e
    refine ⟨R.good_get hg 4, fun h => ⟨(reads_get hg.pos h).why, _, rfl, ?_, fun _ => (get_lt r 4), fun h => absurd ha h⟩⟩
    rw [opt_t ha]; exact reads_get hg.pos h
  · rw [if_neg ha] at e
    simp only [Prod.mk.injEq] at e
    obtain ⟨rfl, rfl⟩ := e
    refine ⟨hg, fun h => ⟨h, c'.fl, rfl, ?_, fun h => absurd h ha, fun _ => rfl⟩⟩
    rw [opt_f ha]; exact Reads.refl h hg.pos


theorem d8_reads {a : Ax} {r r' : R} {c c' : Rc} (hg : r.Good) (e : (r', c') = d8 a (r, c)) : r'.Good ∧ (r'.why = 0 → r.why = 0 ∧ ∃ v : At, c' = { c with at' := v } ∧ Reads r r' (opt a.at' (v.enc)) ∧ (a.at' = true → v.right = true ∧ v.Ok) ∧ (¬ a.at' = true → v = c.at')) := by
  unfold d8 at e
  by_cases ha : a.at' = true
  · rw [if_pos ha] at e
    simp only [Prod.mk.injEq] at e
    obtain ⟨rfl, rfl⟩ := e
    refine ⟨good_attrs hg, fun h => ⟨((reads_attrs hg h).1).why, _, rfl, ?_, fun _ => ⟨(right_good _).2 (reads_attrs hg h).2.1, (reads_attrs hg h).2.2⟩, fun h => absurd ha h⟩⟩
    rw [opt_t ha]; exact (reads_attrs hg h).1
  · rw [if_neg ha] at e
    simp only [Prod.mk.injEq] at e
    obtain ⟨rfl, rfl⟩ := e
    refine ⟨hg, fun h => ⟨h, c'.at', rfl, ?_, fun h => absurd h ha, fun _ => rfl⟩⟩
    rw [opt_f ha]; exact Reads.refl h hg.pos


theorem decAll_ok {a : Ax} {r0 : R} {k : Int} {id : Nat} (hg : r0.Good) (h : (decAll a (r0, { Rc.zero with k := k })).1.why = 0) :
    ∃ c, (decAll a (r0, { Rc.zero with k := k })).2 = c ∧ c.k = k ∧ encE (a, true) c = 0 ∧ (∀ b0, Reads b0 r0 (b8 c.k :: be id 4) → Reads b0 (decAll a (r0, { Rc.zero with k := k })).1 (reqB a id c)) ∧ (∀ c : Rc, c.k = k → True) ∧ c.off < 18446744073709551616 ∧ c.len < 4294967296 ∧ c.fl < 4294967296 ∧ c.at'.Ok := by
  obtain ⟨⟨r1, c1⟩, e1⟩ : ∃ z, z = d1 a (r0, { Rc.zero with k := k }) := ⟨_, rfl⟩
  have k1 := d1_reads hg e1
  obtain ⟨⟨r2, c2⟩, e2⟩ : ∃ z, z = d2 a (r1, c1) := ⟨_, rfl⟩
  have k2 := d2_reads k1.1 e2
  obtain ⟨⟨r3, c3⟩, e3⟩ : ∃ z, z = d3 a (r2, c2) := ⟨_, rfl⟩
  have k3 := d3_reads k2.1 e3
  obtain ⟨⟨r4, c4⟩, e4⟩ : ∃ z, z = d4 a (r3, c3) := ⟨_, rfl⟩
  have k4 := d4_reads k3.1 e4
  obtain ⟨⟨r5, c5⟩, e5⟩ : ∃ z, z = d5 a (r4, c4) := ⟨_, rfl⟩
  have k5 := d5_reads k4.1 e5
  obtain ⟨⟨r6, c6⟩, e6⟩ : ∃ z, z = d6 a (r5, c5) := ⟨_, rfl⟩
  have k6 := d6_reads k5.1 e6
  obtain ⟨⟨r7, c7⟩, e7⟩ : ∃ z, z = d7 a (r6, c6) := ⟨_, rfl⟩
  have k7 := d7_reads k6.1 e7
  obtain ⟨⟨r8, c8⟩, e8⟩ : ∃ z, z = d8 a (r7, c7) := ⟨_, rfl⟩
  have k8 := d8_reads k7.1 e8
  rw [d1_all e1 e2 e3 e4 e5 e6 e7 e8] at h ⊢
  simp only at h ⊢
  have w8 := h
  obtain ⟨w7, vat, q8, R8, bt8, bf8⟩ := k8.2 w8
  obtain ⟨w6, vfl, q7, R7, bt7, bf7⟩ := k7.2 w7
  obtain ⟨w5, vda, q6, R6, bt6, bf6⟩ := k6.2 w6
  obtain ⟨w4, vlen, q5, R5, bt5, bf5⟩ := k5.2 w5
  obtain ⟨w3, voff, q4, R4, bt4, bf4⟩ := k4.2 w4
  obtain ⟨w2, vha, q3, R3, bt3, bf3⟩ := k3.2 w3
  obtain ⟨w1, vto, q2, R2, bt2, bf2⟩ := k2.2 w2
  obtain ⟨w0, vpa, q1, R1, bt1, bf1⟩ := k1.2 w1
  subst q1; subst q2; subst q3; subst q4; subst q5; subst q6; subst q7; subst q8
  refine ⟨_, rfl, rfl, ?_, fun b0 hb0 => ?_, fun _ _ => trivial, ?_, ?_, ?_, ?_⟩
  · unfold encE
    rw [if_neg (by simp), if_neg ?_, if_neg ?_]
    · rintro (⟨h1, h2⟩ | ⟨h1, h2⟩ | ⟨h1, h2⟩ | ⟨h1, h2⟩)
      · have := bt1 h1; simp only at h2; omega
      · have := bt2 h1; simp only at h2; omega
      · have := bt3 h1; simp only at h2; omega
      · have := bt6 h1; simp only at h2; omega
    · rintro ⟨h1, h2⟩
      have h3 := (bt8 h1).1
      simp only at h2
      rw [h2] at h3; cases h3
  · exact (((((((hb0.trans R1).trans R2).trans R3).trans R4).trans R5).trans R6).trans R7).trans R8
  · by_cases ha : a.off = true
    · exact bt4 ha
    · have b' : voff = 0 := bf4 ha
      show voff < 18446744073709551616; omega
  · by_cases ha : a.len = true
    · exact bt5 ha
    · have b' : vlen = 0 := bf5 ha
      show vlen < 4294967296; omega
  · by_cases ha : a.fl = true
    · exact bt7 ha
    · have b' : vfl = 0 := bf7 ha
      show vfl < 4294967296; omega
  · by_cases ha : a.at' = true
    · exact (bt8 ha).2
    · show At.Ok vat; rw [bf8 ha]; exact At.zero_ok
theorem fin_why {r : R} (h : r.fin.1 = 0) : r.why = 0 ∧ r.b.length ≤ r.pos := by
  unfold R.fin at h
  by_cases h1 : r.why = 0
  · rw [if_pos h1] at h
    by_cases h2 : r.pos < r.b.length
    · rw [if_pos h2] at h; cases h
    · exact ⟨h1, by omega⟩
  · rw [if_neg h1] at h; exact absurd h h1
theorem decAll_good {a : Ax} {r0 : R} {k : Int} (hg : r0.Good) : (decAll a (r0, { Rc.zero with k := k })).1.Good := by
  obtain ⟨⟨r1, c1⟩, e1⟩ : ∃ z, z = d1 a (r0, { Rc.zero with k := k }) := ⟨_, rfl⟩
  have k1 := d1_reads hg e1
  obtain ⟨⟨r2, c2⟩, e2⟩ : ∃ z, z = d2 a (r1, c1) := ⟨_, rfl⟩
  have k2 := d2_reads k1.1 e2
  obtain ⟨⟨r3, c3⟩, e3⟩ : ∃ z, z = d3 a (r2, c2) := ⟨_, rfl⟩
  have k3 := d3_reads k2.1 e3
  obtain ⟨⟨r4, c4⟩, e4⟩ : ∃ z, z = d4 a (r3, c3) := ⟨_, rfl⟩
  have k4 := d4_reads k3.1 e4
  obtain ⟨⟨r5, c5⟩, e5⟩ : ∃ z, z = d5 a (r4, c4) := ⟨_, rfl⟩
  have k5 := d5_reads k4.1 e5
  obtain ⟨⟨r6, c6⟩, e6⟩ : ∃ z, z = d6 a (r5, c5) := ⟨_, rfl⟩
  have k6 := d6_reads k5.1 e6
  obtain ⟨⟨r7, c7⟩, e7⟩ : ∃ z, z = d7 a (r6, c6) := ⟨_, rfl⟩
  have k7 := d7_reads k6.1 e7
  obtain ⟨⟨r8, c8⟩, e8⟩ : ∃ z, z = d8 a (r7, c7) := ⟨_, rfl⟩
  have k8 := d8_reads k7.1 e8
  rw [d1_all e1 e2 e3 e4 e5 e6 e7 e8]
  exact k8.1
theorem decAll_why {a : Ax} {r0 : R} {k : Int} (hg : r0.Good) (h : (decAll a (r0, { Rc.zero with k := k })).1.why = 0) : r0.why = 0 := by
  obtain ⟨⟨r1, c1⟩, e1⟩ : ∃ z, z = d1 a (r0, { Rc.zero with k := k }) := ⟨_, rfl⟩
  have k1 := d1_reads hg e1
  obtain ⟨⟨r2, c2⟩, e2⟩ : ∃ z, z = d2 a (r1, c1) := ⟨_, rfl⟩
  have k2 := d2_reads k1.1 e2
  obtain ⟨⟨r3, c3⟩, e3⟩ : ∃ z, z = d3 a (r2, c2) := ⟨_, rfl⟩
  have k3 := d3_reads k2.1 e3
  obtain ⟨⟨r4, c4⟩, e4⟩ : ∃ z, z = d4 a (r3, c3) := ⟨_, rfl⟩
  have k4 := d4_reads k3.1 e4
  obtain ⟨⟨r5, c5⟩, e5⟩ : ∃ z, z = d5 a (r4, c4) := ⟨_, rfl⟩
  have k5 := d5_reads k4.1 e5
  obtain ⟨⟨r6, c6⟩, e6⟩ : ∃ z, z = d6 a (r5, c5) := ⟨_, rfl⟩
  have k6 := d6_reads k5.1 e6
  obtain ⟨⟨r7, c7⟩, e7⟩ : ∃ z, z = d7 a (r6, c6) := ⟨_, rfl⟩
  have k7 := d7_reads k6.1 e7
  obtain ⟨⟨r8, c8⟩, e8⟩ : ∃ z, z = d8 a (r7, c7) := ⟨_, rfl⟩
  have k8 := d8_reads k7.1 e8
  rw [d1_all e1 e2 e3 e4 e5 e6 e7 e8] at h
  have w8 : r8.why = 0 := h
  obtain ⟨w7, vat, q8, R8, bt8, bf8⟩ := k8.2 w8
  obtain ⟨w6, vfl, q7, R7, bt7, bf7⟩ := k7.2 w7
  obtain ⟨w5, vda, q6, R6, bt6, bf6⟩ := k6.2 w6
  obtain ⟨w4, vlen, q5, R5, bt5, bf5⟩ := k5.2 w5
  obtain ⟨w3, voff, q4, R4, bt4, bf4⟩ := k4.2 w4
  obtain ⟨w2, vha, q3, R3, bt3, bf3⟩ := k3.2 w3
  obtain ⟨w1, vto, q2, R2, bt2, bf2⟩ := k2.2 w2
  obtain ⟨w0, vpa, q1, R1, bt1, bf1⟩ := k1.2 w1
  exact w0
/-- bytes that are read as a request are those that are written for it -/
theorem dec_ok {b : List UInt8} (hb : b.length ≤ 140737488355328) (h : (decQ b).2.2 = 0) : encE (axOf (decQ b).2.1.k) (decQ b).2.1 = 0 ∧ encB (axOf (decQ b).2.1.k) (decQ b).1 (decQ b).2.1 = b ∧ (decQ b).1 < 4294967296 ∧ (decQ b).2.1.Ok := by
  have hg0 := R.good_new b hb
  have hg1 := R.good_get hg0 1
  have hg2 := R.good_get hg1 4
  have hl1 := get_lt (R.new b) 1
  have hl2 := get_lt ((R.new b).get 1).1 4
  simp only [Nat.reducePow] at hl1 hl2
  unfold decQ at h ⊢
  by_cases h5 : b.length < 5
  · rw [if_pos h5] at h; cases h
  rw [if_neg h5] at h ⊢
  by_cases hk : (axOf ((R.new b).get 1).2).2 = false
  · rw [if_pos hk] at h; cases h
  rw [if_neg hk] at h ⊢
  obtain ⟨⟨a, ok⟩, ha⟩ : ∃ z, z = axOf (((R.new b).get 1).2 : Int) := ⟨_, rfl⟩
  rw [← ha] at h hk ⊢
  simp only at h hk ⊢
  obtain rfl : ok = true := by simpa using hk
  by_cases hf : (decAll a ((((R.new b).get 1).1.get 4).1, { Rc.zero with k := (((R.new b).get 1).2 : Int) })).1.fin.1 = 0
  · rw [if_pos hf] at h ⊢
    obtain ⟨hw, hp⟩ := fin_why hf
    have hg8 := decAll_good (a := a) (k := (((R.new b).get 1).2 : Int)) hg2
    obtain ⟨c, ec, ek, eE, eR, -, o1, o2, o3, o4⟩ := decAll_ok (a := a) (k := (((R.new b).get 1).2 : Int)) (id := (((R.new b).get 1).1.get 4).2) hg2 hw
    simp only [ec]
    have hr2 : (((R.new b).get 1).1.get 4).1.why = 0 := by
      by_cases hn : (((R.new b).get 1).1.get 4).1.why = 0
      · exact hn
      · exfalso
        exact (decAll_why (a := a) (k := (((R.new b).get 1).2 : Int)) hg2 hw) |> hn
    have hr1 := get_why hr2 hg1.pos
    have t1 := reads_get hg0.pos hr1
    have t2 := reads_get hg1.pos hr2
    have e1 : be ((R.new b).get 1).2 1 = [b8 c.k] := by
      rw [ek]; simp only [be, b8]; congr 1; apply UInt8.toNat_inj.1; rw [UInt8.toNat_ofNat', UInt8.toNat_ofNat']; simp; omega
    have t3 := t1.trans t2
    rw [e1] at t3
    have hR := eR (R.new b) t3
    have hx := hR.x
    have hb8 := hR.b
    rw [show (R.new b).b = b from rfl] at hx hb8
    rw [hb8] at hp
    rw [List.take_of_length_le hp, show (R.new b).pos = 0 from rfl, List.take_zero, List.nil_append] at hx
    rw [ek, ← ha]
    refine ⟨eE, ?_, hl2, ⟨by rw [ek]; omega, o1, o2, o3, o4⟩⟩
    unfold encB
    rw [if_pos eE]; exact hx.symm
  · rw [if_neg hf] at h; cases h
/-- bytes that are not -/
theorem dec_bad {b : List UInt8} (h : (decQ b).2.2 ≠ 0) : (decQ b).2.1 = Rc.zero ∧ ((b.length < 5 ∧ (decQ b).2.2 = 10 ∧ (decQ b).1 = 0) ∨ (5 ≤ b.length ∧ ((decQ b).2.2 = 23 ∨ (decQ b).2.2 = 12) ∧ (decQ b).1 = (((R.new b).get 1).1.get 4).2)) := by
  unfold decQ at h ⊢
  by_cases h5 : b.length < 5
  · rw [if_pos h5]; exact ⟨rfl, .inl ⟨h5, rfl, rfl⟩⟩
  rw [if_neg h5] at h ⊢
  by_cases hk : (axOf ((R.new b).get 1).2).2 = false
  · rw [if_pos hk]; exact ⟨rfl, .inr ⟨by omega, .inl rfl, rfl⟩⟩
  rw [if_neg hk] at h ⊢
  split
  · rename_i hf; rw [if_pos hf] at h; exact absurd rfl h
  · exact ⟨rfl, .inr ⟨by omega, .inr rfl, rfl⟩⟩

end Go.Proofs.Ytigaolglnnjnmaa
