/-
  Plain laws of the table as bytes.
-/
import Derived.Test.YtbiohhfibkolgaaRPure
import Derived.Test.YtbiohhfibkolgaaLoad2
namespace Go.Proofs.Ytbiohhfibkolgaa
open Go.Sx
set_option linter.unusedVariables false
set_option linter.unusedSimpArgs false
set_option maxRecDepth 100000
set_option maxHeartbeats 4000000

theorem six_here {q : R} {a : At} (ha : a.Ok) {l : List UInt8} (h : Here q (a.enc6 ++ l)) : q.six = (q.adv 32, a) := by
  unfold At.enc6 at h
  simp only [List.append_assoc] at h
  have g1 := get_here h ha.f; have h1 := h.adv (n := 4) (by rw [be_length])
  have g2 := get_here h1 ha.u; have h2 := h1.adv (n := 4) (by rw [be_length])
  have g3 := get_here h2 ha.g; have h3 := h2.adv (n := 4) (by rw [be_length])
  have g4 := get_here h3 ha.m; have h4 := h3.adv (n := 4) (by rw [be_length])
  have g5 := get_here h4 ha.a; have h5 := h4.adv (n := 4) (by rw [be_length])
  have g6 := get_here h5 ha.t; have h6 := h5.adv (n := 4) (by rw [be_length])
  have g7 := get_here h6 ha.s
  unfold R.six
  simp only [g1, g2, g3, g4, g5, g6, g7]
  simp only [adv_adv]
theorem reads_six {r : R} (hp : r.pos ≤ r.b.length) (h : r.six.1.why = 0) : Reads r r.six.1 r.six.2.enc6 := by
  unfold R.six At.enc6 at *
  simp only at *
  have p1 := get_pos r 4 hp
  have p1' : (r.get 4).1.pos ≤ (r.get 4).1.b.length := by rw [get_b]; exact p1
  generalize e1 : r.get 4 = q1 at *
  have p2' : (q1.1.get 4).1.pos ≤ (q1.1.get 4).1.b.length := by rw [get_b]; exact get_pos _ 4 p1'
  generalize e2 : q1.1.get 4 = q2 at *
  have p3' : (q2.1.get 4).1.pos ≤ (q2.1.get 4).1.b.length := by rw [get_b]; exact get_pos _ 4 p2'
  generalize e3 : q2.1.get 4 = q3 at *
  have p4' : (q3.1.get 4).1.pos ≤ (q3.1.get 4).1.b.length := by rw [get_b]; exact get_pos _ 4 p3'
  generalize e4 : q3.1.get 4 = q4 at *
  have p5' : (q4.1.get 4).1.pos ≤ (q4.1.get 4).1.b.length := by rw [get_b]; exact get_pos _ 4 p4'
  generalize e5 : q4.1.get 4 = q5 at *
  have p6' : (q5.1.get 4).1.pos ≤ (q5.1.get 4).1.b.length := by rw [get_b]; exact get_pos _ 4 p5'
  generalize e6 : q5.1.get 4 = q6 at *
  have r7 := reads_get p6' h
  have r6 := reads_get (k := 4) p5' (by rw [e6]; exact r7.why); rw [e6] at r6
  have r5 := reads_get (k := 4) p4' (by rw [e5]; exact r6.why); rw [e5] at r5
  have r4 := reads_get (k := 4) p3' (by rw [e4]; exact r5.why); rw [e4] at r4
  have r3 := reads_get (k := 4) p2' (by rw [e3]; exact r4.why); rw [e3] at r3
  have r2 := reads_get (k := 4) p1' (by rw [e2]; exact r3.why); rw [e2] at r2
  have r1 := reads_get (k := 4) hp (by rw [e1]; exact r2.why); rw [e1] at r1
  exact (((((r1.trans r2).trans r3).trans r4).trans r5).trans r6).trans r7
theorem names_here : ∀ (ns : List Nm) {q : R} {l : List UInt8}, (∀ n ∈ ns, n.at'.Ok ∧ n.n.length ≤ 2147483647) → Here q (nenc ns ++ l) → R.names ns.length q = (q.adv (nenc ns).length, ns)
  | [], q, l, _, _ => rfl
  | x :: r, q, l, hok, h => by
    have e : nenc (x :: r) = (be x.n.length 4 ++ x.n) ++ (x.at'.enc6 ++ nenc r) := by
      simp only [nenc, List.flatMap_cons, Nm.enc, txt, List.append_assoc]
    obtain ⟨h1, h2⟩ := hok x List.mem_cons_self
    have hh := h
    rw [show nenc (x :: r) ++ l = (be x.n.length 4 ++ x.n) ++ (x.at'.enc6 ++ (nenc r ++ l)) by rw [e]; simp only [List.append_assoc]] at h
    have t1 := text_here h 2147483647 (by omega) (by omega)
    have h3 := h.adv (n := 4 + x.n.length) (by rw [List.length_append, be_length])
    have t2 := six_here h1 h3
    have h4 := h3.adv (n := 32) (by rw [At.enc6_len])
    have ih := names_here r (fun n hn => hok n (List.mem_cons_of_mem _ hn)) h4
    have el : (nenc (x :: r)).length = 4 + x.n.length + 32 + (nenc r).length := by
      rw [e, List.length_append, List.length_append, List.length_append, be_length, At.enc6_len]; omega
    rw [List.length_cons, R.names, if_pos hh.why]
    simp only [t1, t2, ih]
    simp only [adv_adv, el]
theorem refuse_b (r : R) (w p : Int) : (r.refuse w p).b = r.b ∧ (r.refuse w p).pos = r.pos := by unfold R.refuse; split <;> exact ⟨rfl, rfl⟩
theorem text_pos (q : R) (m : Int) (hq : q.pos ≤ q.b.length) : (q.text m).1.pos ≤ (q.text m).1.b.length := by
  have h1 : (q.get 4).1.pos ≤ (q.get 4).1.b.length := by rw [get_b]; exact get_pos q 4 hq
  have h2 : ∀ (c : Prop) [Decidable c], (if c then (q.get 4).1.refuse 3 q.pos else (q.get 4).1).pos ≤ (if c then (q.get 4).1.refuse 3 q.pos else (q.get 4).1).b.length := fun c _ => by
    split
    · rw [(refuse_b _ _ _).1, (refuse_b _ _ _).2]; exact h1
    · exact h1
  unfold R.text
  exact take_pos _ _ (h2 _)
theorem reads_names : ∀ (n : Nat) {r : R}, r.pos ≤ r.b.length → (R.names n r).1.why = 0 → Reads r (R.names n r).1 (nenc (R.names n r).2) ∧ (R.names n r).2.length = n
  | 0, r, hp, h => ⟨Reads.refl h hp, rfl⟩
  | n + 1, r, hp, h => by
    unfold R.names at *
    by_cases h0 : r.why = 0
    · rw [if_pos h0] at *
      simp only at h ⊢
      have pt : (r.text 2147483647).1.pos ≤ (r.text 2147483647).1.b.length ∨ True := .inr trivial
      have g1 : ∀ q : R, q.pos ≤ q.b.length → (q.text 2147483647).1.pos ≤ (q.text 2147483647).1.b.length := fun q hq => text_pos q _ hq
      have g2 : ∀ q : R, q.pos ≤ q.b.length → q.six.1.pos ≤ q.six.1.b.length := fun q hq => by
        have gg : ∀ (q : R) (k : Nat), q.pos ≤ q.b.length → (q.get k).1.pos ≤ (q.get k).1.b.length := fun q k hq => by rw [get_b]; exact get_pos q k hq
        unfold R.six; exact gg _ _ (gg _ _ (gg _ _ (gg _ _ (gg _ _ (gg _ _ (gg _ _ hq))))))
      have p1 := g1 r hp
      have p2 := g2 _ p1
      obtain ⟨i1, i2⟩ := reads_names n p2 h
      have r2 := reads_six p1 i1.why
      have r1 := reads_text hp r2.why
      refine ⟨?_, by simp only [List.length_cons, i2]⟩
      have := (r1.trans r2).trans i1
      simp only [nenc, List.flatMap_cons, Nm.enc, txt, List.append_assoc] at this ⊢
      exact this
    · rw [if_neg h0] at h; exact absurd h h0
theorem u64_s64 {n : Nat} (h : n < 18446744073709551616) : u64 (s64 n) = n := by
  rw [s64_eq h, u64]; split <;> omega
theorem s64_u64 {z : Int} (h1 : -9223372036854775808 ≤ z) (h2 : z ≤ 9223372036854775807) : s64 (u64 z) = z := by
  have h3 : u64 z < 18446744073709551616 := by unfold u64; omega
  rw [s64_eq h3]; unfold u64; split <;> omega
/-- what an entry may be that comes back -/
structure Rc.Fit (c : Rc) : Prop where
  k : -9223372036854775808 ≤ c.kind ∧ c.kind ≤ 9223372036854775807
  s : -9223372036854775808 ≤ c.status ∧ c.status ≤ 9223372036854775807
  h : c.h.length ≤ 2147483647
  d : c.d.length ≤ 2147483647
  n : c.ns.length < 4294967296
  ns : ∀ x ∈ c.ns, x.at'.Ok ∧ x.n.length ≤ 2147483647
  at' : c.at'.Ok
theorem u64_lt (z : Int) : u64 z < 256 ^ 8 := by unfold u64; simp only [Nat.reducePow]; omega
theorem entry_here {q : R} {z : Int} {c : Rc} (hz : -9223372036854775808 ≤ z ∧ z ≤ 9223372036854775807) (hc : c.Fit) {l : List UInt8} (h : Here q (sc z c ++ l)) : q.entry = (q.adv (sc z c).length, z, c) := by
  have e : sc z c ++ l = be (u64 z) 8 ++ (be (u64 c.kind) 8 ++ (be (u64 c.status) 8 ++ ((be c.h.length 4 ++ c.h) ++ ((be c.d.length 4 ++ c.d) ++ (be c.ns.length 4 ++ (nenc c.ns ++ (c.at'.enc6 ++ l))))))) := by
    simp only [sc, Rc.enc, txt, List.append_assoc]
  have hl := sc_len z c
  rw [e] at h
  have g1 := get_here h (u64_lt z); have h1 := h.adv (n := 8) (by rw [be_length])
  have g2 := get_here h1 (u64_lt c.kind); have h2 := h1.adv (n := 8) (by rw [be_length])
  have g3 := get_here h2 (u64_lt c.status); have h3 := h2.adv (n := 8) (by rw [be_length])
  have g4 := text_here h3 2147483647 (by have := hc.h; omega) (by have := hc.h; omega); have h4 := h3.adv (n := 4 + c.h.length) (by rw [List.length_append, be_length])
  have g5 := text_here h4 2147483647 (by have := hc.d; omega) (by have := hc.d; omega); have h5 := h4.adv (n := 4 + c.d.length) (by rw [List.length_append, be_length])
  have g6 := get_here h5 (n := c.ns.length) (k := 4) hc.n; have h6 := h5.adv (n := 4) (by rw [be_length])
  have g7 := names_here c.ns hc.ns h6; have h7 := h6.adv (n := (nenc c.ns).length) rfl
  have g8 := six_here hc.at' h7
  unfold R.entry
  simp only [g1, g2, g3, g4, g5, g6, g7, g8, s64_u64 hz.1 hz.2, s64_u64 hc.k.1 hc.k.2, s64_u64 hc.s.1 hc.s.2, hl]
  simp only [adv_adv]
  congr 2; omega
theorem names_pos : ∀ (n : Nat) (r : R), r.pos ≤ r.b.length → (R.names n r).1.pos ≤ (R.names n r).1.b.length
  | 0, r, h => h
  | n + 1, r, h => by
    unfold R.names; split
    · exact names_pos n _ (by
        have gg : ∀ (q : R) (k : Nat), q.pos ≤ q.b.length → (q.get k).1.pos ≤ (q.get k).1.b.length := fun q k hq => by rw [get_b]; exact get_pos q k hq
        unfold R.six; exact gg _ _ (gg _ _ (gg _ _ (gg _ _ (gg _ _ (gg _ _ (gg _ _ (text_pos _ _ h))))))))
    · exact h
theorem reads_entry {r : R} (hp : r.pos ≤ r.b.length) (h : r.entry.1.why = 0) : Reads r r.entry.1 (sc r.entry.2.1 r.entry.2.2) := by
  have gg : ∀ (q : R) (k : Nat), q.pos ≤ q.b.length → (q.get k).1.pos ≤ (q.get k).1.b.length := fun q k hq => by rw [get_b]; exact get_pos q k hq
  unfold R.entry at *
  simp only at *
  have b1 := get_lt r 8; have p1 := gg r 8 hp
  generalize e1 : r.get 8 = q1 at *
  have b2 := get_lt q1.1 8; have p2 := gg q1.1 8 p1
  generalize e2 : q1.1.get 8 = q2 at *
  have b3 := get_lt q2.1 8; have p3 := gg q2.1 8 p2
  generalize e3 : q2.1.get 8 = q3 at *
  have p4 := text_pos q3.1 2147483647 p3
  generalize e4 : q3.1.text 2147483647 = q4 at *
  have p5 := text_pos q4.1 2147483647 p4
  generalize e5 : q4.1.text 2147483647 = q5 at *
  have p6 := gg q5.1 4 p5
  generalize e6 : q5.1.get 4 = q6 at *
  have p7 := names_pos q6.2 q6.1 p6
  generalize e7 : R.names q6.2 q6.1 = q7 at *
  have r8 := reads_six p7 h
  obtain ⟨r7, l7⟩ := reads_names q6.2 p6 (by rw [e7]; exact r8.why); rw [e7] at r7 l7
  have r6 := reads_get (k := 4) p5 (by rw [e6]; exact r7.why); rw [e6] at r6
  have r5 := reads_text (most := 2147483647) p4 (by rw [e5]; exact r6.why); rw [e5] at r5
  have r4 := reads_text (most := 2147483647) p3 (by rw [e4]; exact r5.why); rw [e4] at r4
  have r3 := reads_get (k := 8) p2 (by rw [e3]; exact r4.why); rw [e3] at r3
  have r2 := reads_get (k := 8) p1 (by rw [e2]; exact r3.why); rw [e2] at r2
  have r1 := reads_get (k := 8) hp (by rw [e1]; exact r2.why); rw [e1] at r1
  have hh := ((((((r1.trans r2).trans r3).trans r4).trans r5).trans r6).trans r7).trans r8
  have u1 : u64 (s64 q1.2) = q1.2 := u64_s64 (by simpa using b1)
  have u2 : u64 (s64 q2.2) = q2.2 := u64_s64 (by simpa using b2)
  have u3 : u64 (s64 q3.2) = q3.2 := u64_s64 (by simpa using b3)
  simp only [sc, Rc.enc, txt, u1, u2, u3, l7, List.append_assoc] at hh ⊢
  exact hh
theorem entry_ok (r : R) : r.entry.2.2.Ok := ⟨R.six_ok _, fun n hn => by
  have key : ∀ (k : Nat) (q : R), ∀ n ∈ (R.names k q).2, n.at'.Ok := fun k => by
    induction k with
    | zero => intro q n hn; cases hn
    | succ k ih =>
      intro q n hn
      unfold R.names at hn
      split at hn
      · rcases List.mem_cons.1 hn with rfl | hn
        · exact R.six_ok _
        · exact ih _ n hn
      · cases hn
  exact key _ _ n hn⟩
theorem entry_d (r : R) : r.entry.2.2.d.length < 4294967296 ∧ r.entry.2.2.ns.length < 4294967296 := ⟨R.text_len _ _, by
  have h1 := R.names_len ((((R.text ((((r.get 8).1.get 8).1.get 8).1) 2147483647).1.text 2147483647).1.get 4).2) ((((R.text ((((r.get 8).1.get 8).1.get 8).1) 2147483647).1.text 2147483647).1.get 4).1)
  have h2 := get_lt ((R.text ((((r.get 8).1.get 8).1.get 8).1) 2147483647).1.text 2147483647).1 4
  exact Nat.lt_of_le_of_lt h1 (by simpa using h2)⟩
/-- entries are read, one behind the other; none: one is not right -/
def fitE (x : Int × Rc) : Prop := 0 ≤ x.1 ∧ x.1 ≤ 1073741824 ∧ (x.1 = 0 → x.2.bare = true)
instance (x : Int × Rc) : Decidable (fitE x) := by unfold fitE; exact inferInstance
def R.load : Nat → R → Option (R × List (Int × Rc))
  | 0, r => some (r, [])
  | k + 1, r => if r.entry.1.why = 0 ∧ fitE r.entry.2 then (R.load k r.entry.1).map fun x => (x.1, r.entry.2 :: x.2) else none
theorem load_reads : ∀ (k : Nat) {r q : R} {xs : List (Int × Rc)}, r.pos ≤ r.b.length → r.why = 0 → R.load k r = some (q, xs) → Reads r q (tenc xs) ∧ xs.length = k
  | 0, r, q, xs, hp, h0, h => by
    simp only [R.load, Option.some.injEq, Prod.mk.injEq] at h
    obtain ⟨rfl, rfl⟩ := h
    exact ⟨Reads.refl h0 hp, rfl⟩
  | k + 1, r, q, xs, hp, h0, h => by
    unfold R.load at h
    split at h
    · rename_i hh
      obtain ⟨h1, h2⟩ := hh
      cases hl : R.load k r.entry.1 with
      | none => rw [hl] at h; cases h
      | some y =>
        obtain ⟨q', ys⟩ := y
        rw [hl] at h
        simp only [Option.map_some, Option.some.injEq, Prod.mk.injEq] at h
        obtain ⟨rfl, rfl⟩ := h
        have r1 := reads_entry hp h1
        obtain ⟨r2, l2⟩ := load_reads k r1.pos' h1 hl
        refine ⟨?_, by simp [l2]⟩
        have := r1.trans r2
        simpa only [tenc, List.flatMap_cons] using this
    · cases h
theorem load_here : ∀ (xs : List (Int × Rc)) {q : R} {l : List UInt8}, (∀ x ∈ xs, x.2.Fit ∧ fitE x) → Here q (tenc xs ++ l) → R.load xs.length q = some (q.adv (tenc xs).length, xs)
  | [], q, l, _, _ => rfl
  | x :: r, q, l, hok, h => by
    obtain ⟨h1, h2⟩ := hok x List.mem_cons_self
    have e : tenc (x :: r) = sc x.1 x.2 ++ tenc r := by simp only [tenc, List.flatMap_cons]
    rw [e, List.append_assoc] at h
    have t := entry_here (by have := h2.1; have := h2.2.1; omega) h1 h
    have h3 := h.adv (n := (sc x.1 x.2).length) rfl
    have ih := load_here r (fun y hy => hok y (List.mem_cons_of_mem _ hy)) h3
    rw [List.length_cons, R.load, t]
    rw [if_pos ⟨h.why, h2⟩, ih, e, List.length_append]
    simp only [Option.map_some, adv_adv]

end Go.Proofs.Ytbiohhfibkolgaa
