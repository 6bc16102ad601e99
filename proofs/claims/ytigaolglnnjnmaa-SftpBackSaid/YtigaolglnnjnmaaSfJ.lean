/-
  Requests, replies: what is written is read again.
-/
import Derived.Test.YtigaolglnnjnmaaSfI
import Derived.Test.YtigaolglnnjnmaaSfD
import Derived.Test.YtigaolglnnjnmaaRPure
namespace Go.Proofs.Ytigaolglnnjnmaa
open Go.Sx
set_option linter.unusedVariables false
set_option linter.unusedSimpArgs false
set_option maxRecDepth 100000
set_option maxHeartbeats 4000000

structure Sh (q r : R) : Prop where
  why : q.why = r.why
  pq : q.pos ≤ q.b.length
  pr : r.pos ≤ r.b.length
  at' : q.b.drop q.pos = r.b.drop r.pos
theorem Sh.lens {q r : R} (h : Sh q r) : q.b.length - q.pos = r.b.length - r.pos := by
  have := congrArg List.length h.at'
  simpa using this
theorem Sh.refuse {q r : R} (h : Sh q r) (w p p' : Int) : Sh (q.refuse w p) (r.refuse w p') := by
  unfold R.refuse
  by_cases h1 : r.why = 0
  · rw [if_pos h1, if_pos (h.why.trans h1)]; exact ⟨rfl, h.pq, h.pr, h.at'⟩
  · rw [if_neg h1, if_neg (by rw [h.why]; exact h1)]; exact h
theorem Sh.take {q r : R} (h : Sh q r) (n : Int) : Sh (q.take n).1 (r.take n).1 ∧ (q.take n).2 = (r.take n).2 := by
  have hl := h.lens
  have h1 := h.pq
  have h2 := h.pr
  unfold R.take
  by_cases k1 : r.why ≠ 0
  · rw [if_pos k1, if_pos (by rw [h.why]; exact k1)]; exact ⟨h, rfl⟩
  · rw [if_neg k1, if_neg (by rw [h.why]; exact k1)]
    by_cases k2 : (r.b.length : Int) - r.pos < n
    · rw [if_pos k2, if_pos (by omega)]; exact ⟨h.refuse _ _ _, rfl⟩
    · rw [if_neg k2, if_neg (by omega)]
      by_cases k3 : n ≤ 0
      · rw [if_pos k3, if_pos k3]; exact ⟨h, rfl⟩
      · rw [if_neg k3, if_neg k3]
        exact ⟨⟨h.why, by show q.pos + n.toNat ≤ q.b.length; omega, by show r.pos + n.toNat ≤ r.b.length; omega, by show q.b.drop (q.pos + n.toNat) = r.b.drop (r.pos + n.toNat); rw [← List.drop_drop, ← List.drop_drop, h.at']⟩, by simp only; rw [h.at']⟩
theorem Sh.get {q r : R} (h : Sh q r) (n : Nat) : Sh (q.get n).1 (r.get n).1 ∧ (q.get n).2 = (r.get n).2 := ⟨(h.take n).1, by unfold R.get; simp only; rw [(h.take n).2]⟩
theorem Sh.gate {q r : R} (h : Sh q r) (f : Nat) : Sh (R.gate q f) (R.gate r f) := by
  unfold R.gate R.fail
  split
  · rw [if_neg (by decide), if_neg (by decide)]; exact h.refuse _ _ _
  · exact h
def ShP (q r : R × At) : Prop := Sh q.1 r.1 ∧ q.2 = r.2
theorem ShP.s1 {q r : R × At} (h : ShP q r) : ShP (R.s1 q) (R.s1 r) := by
  unfold R.s1; rw [h.2]; split
  · exact ⟨(h.1.get 8).1, by simp only; rw [(h.1.get 8).2]⟩
  · exact h
theorem ShP.s2 {q r : R × At} (h : ShP q r) : ShP (R.s2 q) (R.s2 r) := by
  unfold R.s2; rw [h.2]; split
  · exact ⟨((h.1.get 4).1.get 4).1, by simp only; rw [((h.1.get 4).1.get 4).2, (h.1.get 4).2]⟩
  · exact h
theorem ShP.s3 {q r : R × At} (h : ShP q r) : ShP (R.s3 q) (R.s3 r) := by
  unfold R.s3; rw [h.2]; split
  · exact ⟨(h.1.get 4).1, by simp only; rw [(h.1.get 4).2]⟩
  · exact h
theorem ShP.s4 {q r : R × At} (h : ShP q r) : ShP (R.s4 q) (R.s4 r) := by
  unfold R.s4; rw [h.2]; split
  · exact ⟨((h.1.get 4).1.get 4).1, by simp only; rw [((h.1.get 4).1.get 4).2, (h.1.get 4).2]⟩
  · exact h
theorem Sh.body {q r : R} (h : Sh q r) (x : At) : ShP (q.body x) (r.body x) := ShP.s4 (ShP.s3 (ShP.s2 (ShP.s1 (q := (q, x)) (r := (r, x)) ⟨h, rfl⟩)))
theorem Sh.attrs {q r : R} (h : Sh q r) : ShP q.attrs r.attrs := by
  have h4 := h.get 4
  have hg := h4.1.gate (r.get 4).2
  have hb := hg.body { At.zero with f := (r.get 4).2 }
  unfold R.attrs
  rw [h4.2]
  by_cases k1 : (R.gate (r.get 4).1 (r.get 4).2).why ≠ 0
  · rw [if_pos k1, if_pos (by rw [hg.why]; exact k1)]; exact ⟨hg, rfl⟩
  · rw [if_neg k1, if_neg (by rw [hg.why]; exact k1)]
    by_cases k2 : ((R.gate (r.get 4).1 (r.get 4).2).body { At.zero with f := (r.get 4).2 }).1.why ≠ 0
    · rw [if_pos k2, if_pos (by rw [hb.1.why]; exact k2)]; exact ⟨hb.1, rfl⟩
    · rw [if_neg k2, if_neg (by rw [hb.1.why]; exact k2)]; exact hb
theorem attrs_here {q : R} {x : At} {l : List UInt8} (h : Here q (x.enc ++ l)) (hx : x.Ok) (hr : x.right = true) : ∃ q', q.attrs = (q', x) ∧ Here q' l := by
  have hs : Sh q (R.new (x.enc ++ l)) := ⟨h.why, h.pos, Nat.zero_le _, h.at'⟩
  have ha := hs.attrs
  rw [attrs_enc x hx ((right_good x).1 hr) l] at ha
  refine ⟨q.attrs.1, ?_, ⟨ha.1.why, ha.1.pq, ?_⟩⟩
  · exact Prod.ext rfl ha.2
  · rw [ha.1.at']; exact List.drop_left
theorem tx_here {q : R} {s l : List UInt8} {most : Int} (h : Here q (txB s ++ l)) (hs : (s.length : Int) ≤ most) (h4 : s.length < 4294967296) : ∃ q', q.text most = (q', s) ∧ Here q' l :=
  ⟨_, text_here h most hs h4, by
    have h2 : Here q ((be s.length 4 ++ s) ++ l) := h
    exact h2.adv (by rw [List.length_append, be_length])⟩
theorem gt_here {q : R} {n k : Nat} {l : List UInt8} (h : Here q (be n k ++ l)) (hn : n < 256 ^ k) : ∃ q', q.get k = (q', n) ∧ Here q' l := ⟨_, get_here h hn, h.adv (be_length _ _).symm⟩
theorem fin_here2 {q : R} (h : Here q []) : q.fin.1 = 0 := by
  have h1 := h.len
  rw [List.length_nil] at h1
  unfold R.fin; rw [if_pos h.why, if_neg (by omega)]
theorem k_here {q : R} {k : Int} {l : List UInt8} (h : Here q (b8 k :: l)) (h0 : 0 ≤ k) (h1 : k < 256) : ∃ q' n, q.get 1 = (q', n) ∧ (n : Int) = k ∧ Here q' l := by
  obtain ⟨n, rfl⟩ := Int.eq_ofNat_of_zero_le h0
  have e : be n 1 = [b8 (n : Int)] := by
    simp only [be, b8]; congr 1; apply UInt8.toNat_inj.1; rw [UInt8.toNat_ofNat', UInt8.toNat_ofNat']; simp; omega
  have h' : Here q (be n 1 ++ l) := by rw [e]; exact h
  obtain ⟨q', e1, e2⟩ := gt_here h' (by simp only [Nat.reducePow]; omega)
  exact ⟨q', n, e1, rfl, e2⟩


theorem d1_here {a : Ax} {r : R} {c : Rc} {v : List UInt8} {l : List UInt8} (h : Here r (opt a.pa (txB v) ++ l)) (hb : a.pa = true → v.length ≤ 256) : ∃ r', d1 a (r, c) = (r', { c with pa := if a.pa = true then v else c.pa }) ∧ Here r' l := by
  unfold d1
  by_cases ha : a.pa = true
  · rw [opt_t ha] at h
    obtain ⟨r', e, h'⟩ := tx_here (most := 256) h (by have := hb ha; omega) (by have := hb ha; omega)
    exact ⟨r', by rw [if_pos ha, if_pos ha]; simp only; rw [e], h'⟩
  · rw [opt_f ha, List.nil_append] at h
    exact ⟨r, by rw [if_neg ha, if_neg ha], h⟩


theorem d2_here {a : Ax} {r : R} {c : Rc} {v : List UInt8} {l : List UInt8} (h : Here r (opt a.to (txB v) ++ l)) (hb : a.to = true → v.length ≤ 256) : ∃ r', d2 a (r, c) = (r', { c with to := if a.to = true then v else c.to }) ∧ Here r' l := by
  unfold d2
  by_cases ha : a.to = true
  · rw [opt_t ha] at h
    obtain ⟨r', e, h'⟩ := tx_here (most := 256) h (by have := hb ha; omega) (by have := hb ha; omega)
    exact ⟨r', by rw [if_pos ha, if_pos ha]; simp only; rw [e], h'⟩
  · rw [opt_f ha, List.nil_append] at h
    exact ⟨r, by rw [if_neg ha, if_neg ha], h⟩


theorem d3_here {a : Ax} {r : R} {c : Rc} {v : List UInt8} {l : List UInt8} (h : Here r (opt a.ha (txB v) ++ l)) (hb : a.ha = true → v.length ≤ 256) : ∃ r', d3 a (r, c) = (r', { c with ha := if a.ha = true then v else c.ha }) ∧ Here r' l := by
  unfold d3
  by_cases ha : a.ha = true
  · rw [opt_t ha] at h
    obtain ⟨r', e, h'⟩ := tx_here (most := 256) h (by have := hb ha; omega) (by have := hb ha; omega)
    exact ⟨r', by rw [if_pos ha, if_pos ha]; simp only; rw [e], h'⟩
  · rw [opt_f ha, List.nil_append] at h
    exact ⟨r, by rw [if_neg ha, if_neg ha], h⟩


theorem d4_here {a : Ax} {r : R} {c : Rc} {v : Nat} {l : List UInt8} (h : Here r (opt a.off (be v 8) ++ l)) (hb : a.off = true → v < 18446744073709551616) : ∃ r', d4 a (r, c) = (r', { c with off := if a.off = true then v else c.off }) ∧ Here r' l := by
  unfold d4
  by_cases ha : a.off = true
  · rw [opt_t ha] at h
    obtain ⟨r', e, h'⟩ := gt_here h (by have := hb ha; simp only [Nat.reducePow]; omega)
    exact ⟨r', by rw [if_pos ha, if_pos ha]; simp only; rw [e], h'⟩
  · rw [opt_f ha, List.nil_append] at h
    exact ⟨r, by rw [if_neg ha, if_neg ha], h⟩


theorem d5_here {a : Ax} {r : R} {c : Rc} {v : Nat} {l : List UInt8} (h : Here r (opt a.len (be v 4) ++ l)) (hb : a.len = true → v < 4294967296) : ∃ r', d5 a (r, c) = (r', { c with len := if a.len = true then v else c.len }) ∧ Here r' l := by
  unfold d5
  by_cases ha : a.len = true
  · rw [opt_t ha] at h
    obtain ⟨r', e, h'⟩ := gt_here h (by have := hb ha; simp only [Nat.reducePow]; omega)
    exact ⟨r', by rw [if_pos ha, if_pos ha]; simp only; rw [e], h'⟩
  · rw [opt_f ha, List.nil_append] at h
    exact ⟨r, by rw [if_neg ha, if_neg ha], h⟩


theorem d6_here {a : Ax} {r : R} {c : Rc} {v : List UInt8} {l : List UInt8} (h : Here r (opt a.da (txB v) ++ l)) (hb : a.da = true → v.length ≤ 32768) : ∃ r', d6 a (r, c) = (r', { c with da := if a.da = true then v else c.da }) ∧ Here r' l := by
  unfold d6
  by_cases ha : a.da = true
  · rw [opt_t ha] at h
    obtain ⟨r', e, h'⟩ := tx_here (most := 32768) h (by have := hb ha; omega) (by have := hb ha; omega)
    exact ⟨r', by rw [if_pos ha, if_pos ha]; simp only; rw [e], h'⟩
  · rw [opt_f ha, List.nil_append] at h
    exact ⟨r, by rw [if_neg ha, if_neg ha], h⟩


theorem d7_here {a : Ax} {r : R} {c : Rc} {v : Nat} {l : List UInt8} (h : Here r (opt a.fl (be v 4) ++ l)) (hb : a.fl = true → v < 4294967296) : ∃ r', d7 a (r, c) = (r', { c with fl := if a.fl = true then v else c.fl }) ∧ Here r' l := by
  unfold d7
  by_cases ha : a.fl = true
  · rw [opt_t ha] at h
    obtain ⟨r', e, h'⟩ := gt_here h (by have := hb ha; simp only [Nat.reducePow]; omega)
    exact ⟨r', by rw [if_pos ha, if_pos ha]; simp only; rw [e], h'⟩
  · rw [opt_f ha, List.nil_append] at h
    exact ⟨r, by rw [if_neg ha, if_neg ha], h⟩


theorem d8_here {a : Ax} {r : R} {c : Rc} {v : At} {l : List UInt8} (h : Here r (opt a.at' (v.enc) ++ l)) (hb : a.at' = true → v.Ok ∧ v.right = true) : ∃ r', d8 a (r, c) = (r', { c with at' := if a.at' = true then v else c.at' }) ∧ Here r' l := by
  unfold d8
  by_cases ha : a.at' = true
  · rw [opt_t ha] at h
    obtain ⟨r', e, h'⟩ := attrs_here h (hb ha).1 (hb ha).2
    exact ⟨r', by rw [if_pos ha, if_pos ha]; simp only; rw [e], h'⟩
  · rw [opt_f ha, List.nil_append] at h
    exact ⟨r, by rw [if_neg ha, if_neg ha], h⟩


/-- what its kind tells of a request -/
def rst (a : Ax) (c : Rc) : Rc := ⟨c.k, if a.pa = true then c.pa else [], if a.to = true then c.to else [], if a.ha = true then c.ha else [], if a.off = true then c.off else 0, if a.len = true then c.len else 0, if a.da = true then c.da else [], if a.fl = true then c.fl else 0, if a.at' = true then c.at' else At.zero⟩
theorem ax_k {k : Int} (h : (axOf k).2 = true) : 3 ≤ k ∧ k ≤ 18 := by
  by_cases h1 : 3 ≤ k ∧ k ≤ 18
  · exact h1
  · exfalso
    have e : axOf k = (⟨false, false, false, false, false, false, false, false⟩, false) := by
      unfold axOf
      rw [if_neg (by omega), if_neg (by omega), if_neg (by omega), if_neg (by omega), if_neg (by omega), if_neg (by omega), if_neg (by omega), if_neg (by omega)]
    rw [e] at h; cases h
theorem reqB_rst (a : Ax) (id : Nat) (c : Rc) : reqB a id (rst a c) = reqB a id c := by
  have e : ∀ (b : Bool) (x y : List UInt8), (b = true → x = y) → opt b x = opt b y := fun b x y h => by cases b with
    | true => rw [h rfl]
    | false => rfl
  unfold reqB
  rw [e a.pa _ (txB c.pa) (fun h => by simp only [rst, if_pos h]), e a.to _ (txB c.to) (fun h => by simp only [rst, if_pos h]), e a.ha _ (txB c.ha) (fun h => by simp only [rst, if_pos h]), e a.off _ (be c.off 8) (fun h => by simp only [rst, if_pos h]), e a.len _ (be c.len 4) (fun h => by simp only [rst, if_pos h]), e a.da _ (txB c.da) (fun h => by simp only [rst, if_pos h]), e a.fl _ (be c.fl 4) (fun h => by simp only [rst, if_pos h]), e a.at' _ (c.at'.enc) (fun h => by simp only [rst, if_pos h])]
  rfl
theorem encE_rst {c : Rc} (h : encE (axOf c.k) c = 0) : encE (axOf c.k) (rst (axOf c.k).1 c) = 0 := by
  have hz := encE_zero h
  generalize axOf c.k = A at *
  obtain ⟨a, ok⟩ := A
  simp only at *
  unfold encE
  rw [if_neg (by simp [hz.1]), if_neg (by rintro ⟨h1, h2⟩; have h3 := hz.2.1 h1; simp only [rst, if_pos h1] at h2; rw [h3] at h2; cases h2), if_neg ?_]
  rintro (⟨h1, h2⟩ | ⟨h1, h2⟩ | ⟨h1, h2⟩ | ⟨h1, h2⟩)
  · have h3 := hz.2.2.1 h1; simp only [rst, if_pos h1] at h2; omega
  · have h3 := hz.2.2.2.1 h1; simp only [rst, if_pos h1] at h2; omega
  · have h3 := hz.2.2.2.2.1 h1; simp only [rst, if_pos h1] at h2; omega
  · have h3 := hz.2.2.2.2.2 h1; simp only [rst, if_pos h1] at h2; omega
theorem reqB_len (a : Ax) (id : Nat) (c : Rc) : 5 ≤ (reqB a id c).length := by
  unfold reqB; simp only [List.length_append, List.length_cons, be_length]; omega
/-- a request comes back, as far as its kind tells -/
theorem dec_enc {id : Nat} {c : Rc} (hid : id < 4294967296) (hk : c.Ok) (h : encE (axOf c.k) c = 0) : decQ (reqB (axOf c.k).1 id c) = (id, rst (axOf c.k).1 c, 0) := by
  have hz := encE_zero h
  have hkk := ax_k hz.1
  obtain ⟨a, ha⟩ : ∃ a, (axOf c.k).1 = a := ⟨_, rfl⟩
  rw [ha] at hz ⊢
  have h0 : Here (R.new (reqB a id c)) (b8 c.k :: (be id 4 ++ (opt a.pa (txB c.pa) ++ (opt a.to (txB c.to) ++ (opt a.ha (txB c.ha) ++ (opt a.off (be c.off 8) ++ (opt a.len (be c.len 4) ++ (opt a.da (txB c.da) ++ (opt a.fl (be c.fl 4) ++ (opt a.at' c.at'.enc ++ [])))))))))) := by
    have e := Here.new (reqB a id c)
    have e2 : reqB a id c = _ := rfl
    rw [show (b8 c.k :: (be id 4 ++ (opt a.pa (txB c.pa) ++ (opt a.to (txB c.to) ++ (opt a.ha (txB c.ha) ++ (opt a.off (be c.off 8) ++ (opt a.len (be c.len 4) ++ (opt a.da (txB c.da) ++ (opt a.fl (be c.fl 4) ++ (opt a.at' c.at'.enc ++ [])))))))))) = reqB a id c from by unfold reqB; simp only [List.cons_append, List.append_assoc, List.append_nil]]
    exact e
  obtain ⟨q1, n, e1, en, h1⟩ := k_here h0 (by omega) (by omega)
  obtain ⟨r0, e2, g0⟩ := gt_here h1 (by simp only [Nat.reducePow]; omega)
  obtain ⟨r1, f1, g1⟩ := d1_here (a := a) (c := ⟨c.k, [], [], [], 0, 0, [], 0, At.zero⟩) g0 (hz.2.2.1)
  obtain ⟨r2, f2, g2⟩ := d2_here (a := a) (c := ⟨c.k, if a.pa = true then c.pa else [], [], [], 0, 0, [], 0, At.zero⟩) g1 (hz.2.2.2.1)
  obtain ⟨r3, f3, g3⟩ := d3_here (a := a) (c := ⟨c.k, if a.pa = true then c.pa else [], if a.to = true then c.to else [], [], 0, 0, [], 0, At.zero⟩) g2 (hz.2.2.2.2.1)
  obtain ⟨r4, f4, g4⟩ := d4_here (a := a) (c := ⟨c.k, if a.pa = true then c.pa else [], if a.to = true then c.to else [], if a.ha = true then c.ha else [], 0, 0, [], 0, At.zero⟩) g3 (fun _ => hk.off)
  obtain ⟨r5, f5, g5⟩ := d5_here (a := a) (c := ⟨c.k, if a.pa = true then c.pa else [], if a.to = true then c.to else [], if a.ha = true then c.ha else [], if a.off = true then c.off else 0, 0, [], 0, At.zero⟩) g4 (fun _ => hk.len)
  obtain ⟨r6, f6, g6⟩ := d6_here (a := a) (c := ⟨c.k, if a.pa = true then c.pa else [], if a.to = true then c.to else [], if a.ha = true then c.ha else [], if a.off = true then c.off else 0, if a.len = true then c.len else 0, [], 0, At.zero⟩) g5 (hz.2.2.2.2.2)
  obtain ⟨r7, f7, g7⟩ := d7_here (a := a) (c := ⟨c.k, if a.pa = true then c.pa else [], if a.to = true then c.to else [], if a.ha = true then c.ha else [], if a.off = true then c.off else 0, if a.len = true then c.len else 0, if a.da = true then c.da else [], 0, At.zero⟩) g6 (fun _ => hk.fl)
  obtain ⟨r8, f8, g8⟩ := d8_here (a := a) (c := ⟨c.k, if a.pa = true then c.pa else [], if a.to = true then c.to else [], if a.ha = true then c.ha else [], if a.off = true then c.off else 0, if a.len = true then c.len else 0, if a.da = true then c.da else [], if a.fl = true then c.fl else 0, At.zero⟩) g7 (fun e => ⟨hk.at', hz.2.1 e⟩)
  have hall : decAll a (r0, { Rc.zero with k := c.k }) = (r8, rst a c) := d1_all f1.symm f2.symm f3.symm f4.symm f5.symm f6.symm f7.symm f8.symm
  have hl := reqB_len a id c
  unfold decQ
  rw [if_neg (by omega), e1]
  simp only
  rw [e2, en]
  simp only
  rw [if_neg (by rw [hz.1]; decide), ha, hall]
  simp only
  rw [if_pos (fin_here2 g8)]


theorem lst_here : ∀ (ns : List Nm) (r : R) (l : List UInt8), Here r (ns.flatMap nmE ++ l) → (∀ x ∈ ns, x.n.length ≤ 256 ∧ x.at'.Ok ∧ x.at'.right = true) → ∃ r', lstN ns.length r = (r', ns) ∧ Here r' l := fun ns => by
  induction ns with
  | nil => exact fun r l h _ => ⟨r, rfl, by simpa using h⟩
  | cons x t ih =>
    intro r l h hx
    obtain ⟨k1, k2, k3⟩ := hx x (List.mem_cons_self ..)
    have h1 : Here r (txB x.n ++ (txB x.n ++ (x.at'.enc ++ (t.flatMap nmE ++ l)))) := by
      rw [List.flatMap_cons] at h; simpa [nmE, List.append_assoc] using h
    obtain ⟨r1, e1, g1⟩ := tx_here (most := 256) h1 (by omega) (by omega)
    obtain ⟨r2, e2, g2⟩ := tx_here (most := 256) g1 (by omega) (by omega)
    obtain ⟨r3, e3, g3⟩ := attrs_here g2 k2 k3
    obtain ⟨r4, e4, g4⟩ := ih r3 l g3 (fun y hy => hx y (List.mem_cons_of_mem _ hy))
    refine ⟨r4, ?_, g4⟩
    rw [List.length_cons, lstN, if_neg (by simpa using h.why), e1]
    simp only
    rw [e2]
    simp only
    rw [e3]
    simp only
    rw [e4]
/-- what its kind tells of a reply -/
def rsp (c : Pc) : Pc := if c.k = 1 then { Pc.zero with k := c.k, s := c.s } else if c.k = 2 then { Pc.zero with k := c.k, h := c.h } else if c.k = 3 then { Pc.zero with k := c.k, d := c.d } else if c.k = 4 then { Pc.zero with k := c.k, ns := c.ns } else { Pc.zero with k := c.k, at' := c.at' }
theorem rsp_k (c : Pc) : (rsp c).k = c.k := by unfold rsp; repeat' split
                                               all_goals rfl
theorem repB_rsp (id : Nat) (c : Pc) : repB id (rsp c) = repB id c := by
  unfold repB
  rw [rsp_k]
  congr 1
  unfold repBody
  rw [rsp_k]
  unfold rsp
  by_cases h1 : c.k = 1
  · simp only [if_pos h1]
  by_cases h2 : c.k = 2
  · simp only [if_neg h1, if_pos h2]
  by_cases h3 : c.k = 3
  · simp only [if_neg h1, if_neg h2, if_pos h3]
  by_cases h4 : c.k = 4
  · simp only [if_neg h1, if_neg h2, if_neg h3, if_pos h4]
  · simp only [if_neg h1, if_neg h2, if_neg h3, if_neg h4]
theorem fineE_rsp (c : Pc) (h : fineE c = 0) : fineE (rsp c) = 0 := by
  rw [← h]
  unfold fineE
  rw [rsp_k]
  unfold rsp
  by_cases h1 : c.k = 1
  · simp only [if_pos h1]
  by_cases h2 : c.k = 2
  · simp only [if_neg h1, if_pos h2]
  by_cases h3 : c.k = 3
  · simp only [if_neg h1, if_neg h2, if_pos h3]
  by_cases h4 : c.k = 4
  · simp only [if_neg h1, if_neg h2, if_neg h3, if_pos h4]
  · simp only [if_neg h1, if_neg h2, if_neg h3, if_neg h4]
theorem fine_parts {c : Pc} (h : fineE c = 0) : (c.k = 1 → 0 ≤ c.s ∧ c.s ≤ 2147483647) ∧ (c.k = 2 → c.h.length ≤ 256) ∧ (c.k = 3 → c.d.length ≤ 32768) ∧ (c.k = 4 → namesE c.ns = 0) ∧ (c.k = 5 → c.at'.right = true) := by
  unfold fineE at h
  refine ⟨fun e => ?_, fun e => ?_, fun e => ?_, fun e => ?_, fun e => ?_⟩
  · rw [if_pos e] at h; split at h; cases h; omega
  · rw [if_neg (by omega), if_pos e] at h; split at h; cases h; omega
  · rw [if_neg (by omega), if_neg (by omega), if_pos e] at h; split at h; cases h; omega
  · rw [if_neg (by omega), if_neg (by omega), if_neg (by omega), if_pos e] at h; exact h
  · rw [if_neg (by omega), if_neg (by omega), if_neg (by omega), if_neg (by omega), if_pos e] at h
    split at h
    · assumption
    · cases h
theorem decB_here {c : Pc} {r : R} (h : fineE c = 0) (ho : c.at'.Ok) (hn : ∀ x ∈ c.ns, x.at'.Ok) (hr : Here r (repBody c)) : ∃ r', decB c.k r = (r', rsp c) ∧ Here r' [] := by
  have hk := fine_k h
  obtain ⟨p1, p2, p3, p4, p5⟩ := fine_parts h
  unfold repBody at hr
  unfold decB rsp
  by_cases h1 : c.k = 1
  · rw [if_pos h1] at hr
    obtain ⟨k1, k2⟩ := p1 h1
    have hr2 : Here r (be c.s.toNat 4 ++ (txB [] ++ (txB [] ++ []))) := by simpa [txB, List.append_assoc] using hr
    obtain ⟨r1, e1, g1⟩ := gt_here hr2 (by simp only [Nat.reducePow]; omega)
    obtain ⟨r2, e2, g2⟩ := tx_here (most := 256) g1 (by simp) (by simp)
    obtain ⟨r3, e3, g3⟩ := tx_here (most := 256) g2 (by simp) (by simp)
    refine ⟨r3, ?_, g3⟩
    rw [if_pos h1, if_pos h1, e1]
    simp only
    rw [show gateN r1 c.s.toNat 2147483647 = r1 from by unfold gateN; rw [if_neg (by omega)], e2]
    simp only
    rw [e3, Int.toNat_of_nonneg k1]
  by_cases h2 : c.k = 2
  · rw [if_neg h1, if_pos h2] at hr
    have k2 := p2 h2
    obtain ⟨r1, e1, g1⟩ := tx_here (most := 256) (l := []) (by simpa using hr) (by omega) (by omega)
    exact ⟨r1, by rw [if_neg h1, if_pos h2, if_neg h1, if_pos h2, e1], g1⟩
  by_cases h3 : c.k = 3
  · rw [if_neg h1, if_neg h2, if_pos h3] at hr
    have k2 := p3 h3
    obtain ⟨r1, e1, g1⟩ := tx_here (most := 32768) (l := []) (by simpa using hr) (by omega) (by omega)
    exact ⟨r1, by rw [if_neg h1, if_neg h2, if_pos h3, if_neg h1, if_neg h2, if_pos h3, e1], g1⟩
  by_cases h4 : c.k = 4
  · rw [if_neg h1, if_neg h2, if_neg h3, if_pos h4] at hr
    obtain ⟨n1, n2, n3⟩ := namesE_zero (p4 h4)
    obtain ⟨r1, e1, g1⟩ := gt_here hr (by simp only [Nat.reducePow]; omega)
    obtain ⟨r2, e2, g2⟩ := lst_here c.ns r1 [] (by simpa using g1) (fun x hx => ⟨n2 x hx, hn x hx, n3 x hx⟩)
    refine ⟨r2, ?_, g2⟩
    have e : readL r = (r2, c.ns) := by
      unfold readL
      rw [e1]
      simp only
      rw [show gateN r1 c.ns.length 100 = r1 from by unfold gateN; rw [if_neg (by omega)], e2]
    rw [if_neg h1, if_neg h2, if_neg h3, if_pos h4, if_neg h1, if_neg h2, if_neg h3, if_pos h4, e]
  · rw [if_neg h1, if_neg h2, if_neg h3, if_neg h4] at hr
    obtain ⟨r1, e1, g1⟩ := attrs_here (l := []) (by simpa using hr) ho (p5 (by omega))
    exact ⟨r1, by rw [if_neg h1, if_neg h2, if_neg h3, if_neg h4, if_neg h1, if_neg h2, if_neg h3, if_neg h4, e1], g1⟩
/-- a reply comes back, as far as its kind tells -/
theorem decP_enc {id : Nat} {c : Pc} (hid : id < 4294967296) (h : fineE c = 0) (ho : c.at'.Ok) (hn : ∀ x ∈ c.ns, x.at'.Ok) : decP (repB id c) = (id, rsp c, 0) := by
  have hk := fine_k h
  have h0 : Here (R.new (repB id c)) (b8 (100 + c.k) :: (be id 4 ++ repBody c)) := Here.new _
  obtain ⟨q1, n, e1, en, h1⟩ := k_here h0 (by omega) (by omega)
  obtain ⟨r0, e2, g0⟩ := gt_here h1 (by simp only [Nat.reducePow]; omega)
  obtain ⟨r8, e3, g8⟩ := decB_here h ho hn g0
  have hl : 5 ≤ (repB id c).length := by unfold repB; simp only [List.length_append, List.length_cons, be_length]; omega
  have hkk : (n : Int) - 100 = c.k := by omega
  unfold decP
  rw [if_neg (by omega), e1]
  simp only
  rw [hkk, if_neg (by omega), e2]
  simp only
  rw [e3]
  simp only
  rw [if_pos (fin_here2 g8)]

end Go.Proofs.Ytigaolglnnjnmaa
