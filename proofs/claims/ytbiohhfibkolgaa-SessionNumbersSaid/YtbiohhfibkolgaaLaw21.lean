/-
  Tables that come of asks.
-/
import Derived.Test.YtbiohhfibkolgaaLoad3
import Derived.Test.YtbiohhfibkolgaaOpenRp
namespace Go.Proofs.Ytbiohhfibkolgaa
open Go.Sx
set_option linter.unusedVariables false
set_option linter.unusedSimpArgs false
set_option maxRecDepth 100000
set_option maxHeartbeats 4000000

/-- a reply that is short -/
structure Rc.Sm (c : Rc) : Prop where
  k : -9223372036854775808 ≤ c.kind ∧ c.kind ≤ 9223372036854775807
  s : -9223372036854775808 ≤ c.status ∧ c.status ≤ 9223372036854775807
  h : c.h.length ≤ 100
  d : c.d.length ≤ 100
  n : c.ns.length ≤ 5
  ns : ∀ x ∈ c.ns, x.at'.Ok ∧ x.n.length ≤ 100
  at' : c.at'.Ok
theorem Rc.Sm.fit {c : Rc} (h : c.Sm) : c.Fit := ⟨h.k, h.s, by have := h.h; omega, by have := h.d; omega, by have := h.n; omega, fun x hx => ⟨(h.ns x hx).1, by have := (h.ns x hx).2; omega⟩, h.at'⟩
theorem Rc.Sm.ok {c : Rc} (h : c.Sm) : c.Ok := ⟨h.at', fun n hn => (h.ns n hn).1⟩
theorem Rc.zero_sm : Rc.zero.Sm := ⟨by decide, by decide, by decide, by decide, by decide, fun x hx => (by cases hx), At.zero_ok⟩
theorem Rp.Ok.short_sm {V : HProp} {r : Rp} (h : r.Ok V) : r.c.short.Sm := by
  refine ⟨h.k, h.s, by simp [Rc.short]; omega, by simp [Rc.short]; omega, short_ns _, fun x hx => ?_, h.at'⟩
  unfold Rc.short at hx
  simp only at hx
  split at hx
  · cases hx
  · rename_i hh
    have hm : x ∈ r.c.ns := List.mem_of_mem_take hx
    refine ⟨(h.ns x hm).2, ?_⟩
    refine Classical.byContradiction fun hn => hh (List.any_eq_true.2 ⟨x, hx, by simp; omega⟩)
/-- a table as asks make it -/
structure Tbl (E : List En) : Prop where
  len : E.length = 16
  sm : ∀ e ∈ E, e.r.c.Sm ∧ fitE e.sc
theorem Tbl.zero : Tbl (List.replicate 16 En.zero) := ⟨rfl, fun e he => by
  obtain rfl := List.eq_of_mem_replicate he
  exact ⟨Rc.zero_sm, by decide⟩⟩
theorem Tbl.set {E : List En} (h : Tbl E) (c : Nat) {e : En} (hs : e.r.c.Sm) (h1 : 1 ≤ e.seq) (h2 : e.seq ≤ 1073741824) : Tbl (E.set c e) := ⟨by rw [List.length_set]; exact h.len, fun x hx => by
  rcases List.mem_or_eq_of_mem_set hx with h3 | rfl
  · exact h.sm x h3
  · exact ⟨hs, by show 0 ≤ x.seq; omega, h2, fun h0 => by have h4 : x.seq = 0 := h0; omega⟩⟩
theorem Tbl.short {E : List En} (h : Tbl E) : Short E := fun c e hc => by
  have h1 := (h.sm e (List.mem_of_getElem? hc)).1
  have := h1.d; have := h1.n
  exact ⟨by omega, by omega⟩
theorem Tbl.ok {E : List En} (h : Tbl E) : ∀ e ∈ E, e.r.c.Ok := fun e he => (h.sm e he).1.ok
theorem nenc_le : ∀ (l : List Nm), (∀ x ∈ l, x.n.length ≤ 100) → (nenc l).length ≤ 136 * l.length
  | [], _ => by simp [nenc]
  | x :: r, h => by
    have h1 := nenc_le r fun y hy => h y (List.mem_cons_of_mem _ hy)
    have h2 := h x List.mem_cons_self
    have h3 := Nm.enc_len x
    unfold nenc at h1 ⊢
    rw [List.flatMap_cons, List.length_append, List.length_cons]; omega
theorem tenc_le : ∀ (l : List (Int × Rc)), (∀ x ∈ l, x.2.Sm) → (tenc l).length ≤ 948 * l.length
  | [], _ => by simp [tenc]
  | x :: r, h => by
    have h1 := tenc_le r fun y hy => h y (List.mem_cons_of_mem _ hy)
    have h2 := h x List.mem_cons_self
    have h3 := sc_len x.1 x.2
    have h4 := nenc_le x.2.ns fun y hy => (h2.ns y hy).2
    have := h2.h; have := h2.d; have := h2.n
    unfold tenc at h1 ⊢
    rw [List.flatMap_cons, List.length_append, List.length_cons]; omega
theorem Tbl.size {E : List En} (h : Tbl E) : (tenc (E.map En.sc)).length ≤ 15168 := by
  have h1 := tenc_le (E.map En.sc) fun x hx => by
    obtain ⟨e, he, rfl⟩ := List.mem_map.1 hx
    exact (h.sm e he).1
  rw [List.length_map, h.len] at h1; omega
theorem Tbl.loads {E : List En} (h : Tbl E) : loadOf (tenc (E.map En.sc)) = some (E.map En.sc) := by
  have h0 : Here (R.new (tenc (E.map En.sc))) (tenc (E.map En.sc) ++ []) := by rw [List.append_nil]; exact Here.new _
  have h1 := load_here (E.map En.sc) (fun x hx => by
    obtain ⟨e, he, rfl⟩ := List.mem_map.1 hx
    exact ⟨(h.sm e he).1.fit, (h.sm e he).2⟩) h0
  rw [List.length_map, h.len] at h1
  unfold loadOf
  rw [h1]
  have h2 : (((R.new (tenc (E.map En.sc))).adv (tenc (E.map En.sc)).length)).fin.1 = 0 := by
    have e1 : ((R.new (tenc (E.map En.sc))).adv (tenc (E.map En.sc)).length).why = 0 := rfl
    unfold R.fin
    rw [if_pos e1, if_neg (by simp [R.adv, R.new])]
  simp only
  rw [if_pos h2]
theorem Tbl.of_map {E E' : List En} (h : Tbl E) (hm : E'.map En.sc = E.map En.sc) : Tbl E' := ⟨by have := congrArg List.length hm; simpa [h.len] using this, fun e he => by
  have h1 : e.sc ∈ E.map En.sc := by rw [← hm]; exact List.mem_map_of_mem he
  obtain ⟨e2, he2, h2⟩ := List.mem_map.1 h1
  have h3 := h.sm e2 he2
  rw [h2] at h3
  have h4 : e2.r.c = e.r.c := congrArg Prod.snd h2
  rw [h4] at h3; exact h3⟩
theorem xor8 (a b : UInt8) : bits .xor .u8 (a.toNat : Int) (b.toNat : Int) = ((a ^^^ b).toNat : Int) := by
  show IntKind.u8.wrap ((BitVec.ofInt 8 (a.toNat : Int) ^^^ BitVec.ofInt 8 (b.toNat : Int)).toNat : Int) = _
  have e1 : BitVec.ofInt 8 (a.toNat : Int) = BitVec.ofNat 8 a.toNat := by simp
  have e2 : BitVec.ofInt 8 (b.toNat : Int) = BitVec.ofNat 8 b.toNat := by simp
  have h1 := UInt8.toNat_lt a; have h2 := UInt8.toNat_lt b
  have h3 : a.toNat ^^^ b.toNat < 256 := Nat.xor_lt_two_pow (n := 8) h1 h2
  rw [e1, e2, BitVec.toNat_xor, BitVec.toNat_ofNat, BitVec.toNat_ofNat, Nat.mod_eq_of_lt h1, Nat.mod_eq_of_lt h2, UInt8.toNat_xor]
  exact wrap_u8_in (by omega) (by omega)
theorem Rp.Ok.nl {V : HProp} {r : Rp} (h : r.Ok V) : r.c.ns.length ≤ 9223372036854775807 := by have h1 := h.cap.2; have h2 := h.n; simp only [maxLen] at h2; omega
theorem told_seq {E : List En} {client seq how : Int} {r : Rp} (h : Told E client seq how r) (h1 : how = 1) : 1 ≤ seq ∧ seq ≤ 1073741824 := by
  rcases h with ⟨h2, _⟩ | ⟨c, e, _, _, h2⟩
  · omega
  · rcases h2 with ⟨_, _, a, b, _⟩ | ⟨_, _, a, b, _⟩ | ⟨_, _, a, b, _⟩ <;> exact ⟨a, b⟩
theorem last_map {E E' : List En} (hm : E'.map En.sc = E.map En.sc) (c : Int) : lastOf E' c = lastOf E c := by
  unfold lastOf
  split
  · have h1 := congrArg (fun l : List (Int × Rc) => l[c.toNat]?) hm
    simp only [List.getElem?_map] at h1
    cases h2 : E'[c.toNat]? with
    | none => cases h3 : E[c.toNat]? with
      | none => rfl
      | some e => rw [h2, h3] at h1; cases h1
    | some e' => cases h3 : E[c.toNat]? with
      | none => rw [h2, h3] at h1; cases h1
      | some e => rw [h2, h3] at h1; simp only [Option.map_some, Option.some.injEq] at h1; exact congrArg Prod.fst h1
  · rfl

end Go.Proofs.Ytbiohhfibkolgaa
