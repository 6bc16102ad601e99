/-
  Requests, replies: what is written is read again.
-/
import Derived.Test.YtigaolglnnjnmaaSfI
import Derived.Test.YtigaolglnnjnmaaSfD
import Derived.Test.YtigaolglnnjnmaaRPure
namespace Go.Proofs.Ytigaolglnnjnmaa
open Go.Sx
set_option linter.unusedVariables false
set_option linter.unusedSimpArgs false
set_option maxRecDepth 100000
set_option maxHeartbeats 4000000

structure Sh (q r : R) : Prop where
  why : q.why = r.why
  pq : q.pos ≤ q.b.length
  pr : r.pos ≤ r.b.length
  at' : q.b.drop q.pos = r.b.drop r.pos
theorem Sh.lens {q r : R} (h : Sh q r) : q.b.length - q.pos = r.b.length - r.pos := by
  have := congrArg List.length h.at'
  simpa using this
theorem Sh.refuse {q r : R} (h : Sh q r) (w p p' : Int) : Sh (q.refuse w p) (r.refuse w p') := by
  unfold R.refuse
  by_cases h1 : r.why = 0
  · rw [if_pos h1, if_pos (h.why.trans h1)]; exact ⟨rfl, h.pq, h.pr, h.at'⟩
  · rw [if_neg h1, if_neg (by rw [h.why]; exact h1)]; exact h
theorem Sh.take {q r : R} (h : Sh q r) (n : Int) : Sh (q.take n).1 (r.take n).1 ∧ (q.take n).2 = (r.take n).2 := by
  have hl := h.lens
  have h1 := h.pq
  have h2 := h.pr
  unfold R.take
  by_cases k1 : r.why ≠ 0
  · rw [if_pos k1, if_pos (by rw [h.why]; exact k1)]; exact ⟨h, rfl⟩
  · rw [if_neg k1, if_neg (by rw [h.why]; exact k1)]
    by_cases k2 : (r.b.length : Int) - r.pos < n
    · rw [if_pos k2, if_pos (by omega)]; exact ⟨h.refuse _ _ _, rfl⟩
    · rw [if_neg k2, if_neg (by omega)]
      by_cases k3 : n ≤ 0
      · rw [if_pos k3, if_pos k3]; exact ⟨h, rfl⟩
      · rw [if_neg k3, if_neg k3]
        exact ⟨⟨h.why, by show q.pos + n.toNat ≤ q.b.length; omega, by show r.pos + n.toNat ≤ r.b.length; omega, by show q.b.drop (q.pos + n.toNat) = r.b.drop (r.pos + n.toNat); rw [← List.drop_drop, ← List.drop_drop, h.at']⟩, by simp only; rw [h.at']⟩
theorem Sh.get {q r : R} (h : Sh q r) (n : Nat) : Sh (q.get n).1 (r.get n).1 ∧ (q.get n).2 = (r.get n).2 := ⟨(h.take n).1, by unfold R.get; simp only; rw [(h.take n).2]⟩
theorem Sh.gate {q r : R} (h : Sh q r) (f : Nat) : Sh (R.gate q f) (R.gate r f) := by
  unfold R.gate R.fail
  split
  · rw [if_neg (by decide), if_neg (by decide)]; exact h.refuse _ _ _
  · exact h
def ShP (q r : R × At) : Prop := Sh q.1 r.1 ∧ q.2 = r.2
theorem ShP.s1 {q r : R × At} (h : ShP q r) : ShP (R.s1 q) (R.s1 r) := by
  unfold R.s1; rw [h.2]; split
  · exact ⟨(h.1.get 8).1, by simp only; rw [(h.1.get 8).2]⟩
  · exact h
theorem ShP.s2 {q r : R × At} (h : ShP q r) : ShP (R.s2 q) (R.s2 r) := by
  unfold R.s2; rw [h.2]; split
  · exact ⟨((h.1.get 4).1.get 4).1, by simp only; rw [((h.1.get 4).1.get 4).2, (h.1.get 4).2]⟩
  · exact h
theorem ShP.s3 {q r : R × At} (h : ShP q r) : ShP (R.s3 q) (R.s3 r) := by
  unfold R.s3; rw [h.2]; split
  · exact ⟨(h.1.get 4).1, by simp only; rw [(h.1.get 4).2]⟩
  · exact h
theorem ShP.s4 {q r : R × At} (h : ShP q r) : ShP (R.s4 q) (R.s4 r) := by
  unfold R.s4; rw [h.2]; split
  · exact ⟨((h.1.get 4).1.get 4).1, by simp only; rw [((h.1.get 4).1.get 4).2, (h.1.get 4).2]⟩
  · exact h
theorem Sh.body {q r : R} (h : Sh q r) (x : At) : ShP (q.body x) (r.body x) := ShP.s4 (ShP.s3 (ShP.s2 (ShP.s1 (q := (q, x)) (r := (r, x)) ⟨h, rfl⟩)))
theorem Sh.attrs {q r : R} (h : Sh q r) : ShP q.attrs r.attrs := by
  have h4 := h.get 4
  have hg := h4.1.gate (r.get 4).2
  have hb := hg.body { At.zero with f := (r.get 4).2 }
  unfold R.attrs
  rw [h4.2]
  by_cases k1 : (R.gate (r.get 4).1 (r.get 4).2).why ≠ 0
  · rw [if_pos k1, if_pos (by rw [hg.why]; exact k1)]; exact ⟨hg, rfl⟩
  · rw [if_neg k1, if_neg (by rw [hg.why]; exact k1)]
    by_cases k2 : ((R.gate (r.get 4).1 (r.get 4).2).body { At.zero with f := (r.get 4).2 }).1.why ≠ 0
    · rw [if_pos k2, if_pos (by rw [hb.1.why]; exact k2)]; exact ⟨hb.1, rfl⟩
    · rw [if_neg k2, if_neg (by rw [hb.1.why]; exact k2)]; exact hb
/-- what its kind tells of a request -/
def rst (a : Ax) (c : Rc) : Rc := ⟨c.k, if a.pa = true then c.pa else [], if a.to = true then c.to else [], if a.ha = true then c.ha else [], if a.off = true then c.off else 0, if a.len = true then c.len else 0, if a.da = true then c.da else [], if a.fl = true then c.fl else 0, if a.at' = true then c.at' else At.zero⟩
/-- what its kind tells of a reply -/
def rsp (c : Pc) : Pc := if c.k = 1 then { Pc.zero with k := c.k, s := c.s } else if c.k = 2 then { Pc.zero with k := c.k, h := c.h } else if c.k = 3 then { Pc.zero with k := c.k, d := c.d } else if c.k = 4 then { Pc.zero with k := c.k, ns := c.ns } else { Pc.zero with k := c.k, at' := c.at' }
theorem fine_parts {c : Pc} (h : fineE c = 0) : (c.k = 1 → 0 ≤ c.s ∧ c.s ≤ 2147483647) ∧ (c.k = 2 → c.h.length ≤ 256) ∧ (c.k = 3 → c.d.length ≤ 32768) ∧ (c.k = 4 → namesE c.ns = 0) ∧ (c.k = 5 → c.at'.right = true) := by
  unfold fineE at h
  refine ⟨fun e => ?_, fun e => ?_, fun e => ?_, fun e => ?_, fun e => ?_⟩
  · rw [if_pos e] at h; split at h; cases h; omega
  · rw [if_neg (by omega), if_pos e] at h; split at h; cases h; omega
  · rw [if_neg (by omega), if_neg (by omega), if_pos e] at h; split at h; cases h; omega
  · rw [if_neg (by omega), if_neg (by omega), if_neg (by omega), if_pos e] at h; exact h
  · rw [if_neg (by omega), if_neg (by omega), if_neg (by omega), if_neg (by omega), if_pos e] at h
    split at h
    · assumption
    · cases h
end Go.Proofs.Ytigaolglnnjnmaa
