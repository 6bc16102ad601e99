/-
  More on arguments that are opened.
  Slices of texts that came in, opened.
  Arguments opened, type by type.
-/
import Derived.Test.YtlefpllcgcicpaaGreatDoorShell
import Derived.Deep.Slices
import Derived.Test.YtlefpllcgcicpaaGreatDoorSxSub
import Derived.ChangeArms
set_option linter.unusedVariables false
namespace Go.Sx
open Go.ChangeShapes Go.WideShapes
theorem okWide_cap {P : Program} {w : World} {r : Reach} {base : Nat} {t e : TypeId} {a : Option Addr} {len cap : Nat} (ht : P.underlying t = some (.slice e)) (h : Value.okWide P w r base t (.slice a len cap)) : len ≤ cap := by
 simp only [Value.okWide, ht, Cell.okWide] at h
 cases a with
 | some x => simp only [Cell.ok, ht] at h; exact h.1
 | none =>
  simp only [Cell.ok, ht] at h
  split at h <;> simp_all
open Go.ChangeShapes Go.WideShapes Go.ChangeAt Go.RowKit Go.Deep
theorem list_of {α : Type} (Q : Nat → α → Prop) : ∀ (n : Nat), (∀ i, i < n → ∃ x, Q i x) → ∃ l : List α, l.length = n ∧ ∀ (i : Nat) (x : α), l[i]? = some x → Q i x
 | 0, _ => ⟨[], rfl, fun i x h => by simp at h⟩
 | n + 1, h => by
  obtain ⟨l, hl, hq⟩ := list_of Q n fun i hi => h i (by omega)
  obtain ⟨x, hx⟩ := h n (by omega)
  refine ⟨l ++ [x], by simp [hl], fun i y hy => ?_⟩
  by_cases hi : i < l.length
  ·rw [List.getElem?_append_left hi] at hy; exact hq i y hy
  ·rw [List.getElem?_append_right (by omega)] at hy
   have : i - l.length = 0 := by
    have := (List.getElem?_eq_some_iff.1 hy).1; simp at this; omega
   rw [this] at hy; simp at hy
   have e : i = n := by omega
   subst e; subst hy; exact hx
section
variable {H : Type} {enc : TypeId × Value → H} {P : Program} {W : World}
/-- what was there is read wherever the elder world stands -/
theorem ro_cell {w : World} {R : HProp} (s : sat w (star (ro W) R)) {a : Addr} {u : Value} (h : W.cell? a = some u) : w.cell? a = some u := by
 have hs := qa s
 have hblk : a.block < W.heap.size := by
  refine Classical.byContradiction fun hn => ?_
  have : W.heap[a.block]? = Option.none := by simp; omega
  simp [World.cell?, this] at h
 rw [World.cell?_of_block (w := W) (w' := w) ((ro_kept hs).2.2 a.block hblk)]; exact h
end
open Go.ChangeShapes Go.WideShapes Go.ChangeAt Go.RowKit Go.Deep
section
variable {P : Program} {W : World}
/-- whatever reads as type t at the call lies as f tells, of some y that is all right -/
def Opens (P : Program) (W : World) (t : TypeId) {α : Type} (f : α → List Value) (ok : α → Prop) : Prop :=
 ∀ (H : Type) (enc : TypeId × Value → H) (fuel : Nat) (cs : List Value) (x : DataW H × List MemPlace), DataW.trod enc P W 0 (fun _ => true) true fuel t cs = some x → ∃ y, cs = f y ∧ ok y
theorem opens_i64 {t : TypeId} (ht : P.underlying t = some (.int .i64)) : Opens P W t (fun k : Int => [.int .i64 k]) (fun k => -9223372036854775808 ≤ k ∧ k ≤ 9223372036854775807) := fun H enc fuel cs x h => by
 obtain ⟨k, hk, _, hw⟩ := DataW.trod_int ht h
 refine ⟨k, hk, ?_⟩; have h1 : IntKind.i64.min = -9223372036854775808 := rfl
 have h2 : IntKind.i64.max = 9223372036854775807 := rfl
 simp only [Lit.wf, Bool.and_eq_true, decide_eq_true_eq] at hw; omega
theorem opens_u {t : TypeId} {k : IntKind} (m : Int) (ht : P.underlying t = some (.int k)) (h0 : k.min = 0) (h1 : k.max = m) : Opens P W t (fun n : Nat => [.int k (n : Int)]) (fun n => (n : Int) ≤ m) := fun H enc fuel cs x h => by
 obtain ⟨z, hk, _, hw⟩ := DataW.trod_int ht h
 obtain ⟨n, rfl, hn⟩ := wf_nat hw h0 h1
 exact ⟨n, hk, hn⟩
theorem opens_byte {t : TypeId} (ht : P.underlying t = some (.int .u8)) : Opens P W t (fun b : UInt8 => [byteV b]) (fun _ => True) := fun H enc fuel cs x h => by
 obtain ⟨n, h1, h2⟩ := opens_u 255 ht rfl rfl H enc fuel cs x h
 refine ⟨UInt8.ofNat n, ?_, trivial⟩
 show cs = [.int .u8 ((UInt8.ofNat n).toNat : Int)]
 rw [h1, UInt8.toNat_ofNat', Nat.mod_eq_of_lt (by omega)]
theorem opens_str {t : TypeId} (ht : P.underlying t = some .string) : Opens P W t (fun l : List UInt8 => [.string (str l)]) (fun l => l.length ≤ maxLen) := fun H enc fuel cs x h => by
 obtain ⟨s, h1, _, h2⟩ := DataW.trod_string ht h
 refine ⟨s.data.toList, ?_, by simpa using h2⟩
 show cs = [.string (str s.data.toList)]
 rw [str_data]; exact h1
/-- a slice that came in: where, how much room, what -/
structure Slv (α : Type) where
 p : Option Addr
 c : Nat
 l : List α
abbrev Slv.v {α : Type} (s : Slv α) : Value := .slice s.p s.l.length s.c
def Slv.nil {α : Type} : Slv α := ⟨none, 0, []⟩
structure Slv.Ok {α : Type} (V : HProp) (f : α → List Value) (ok : α → Prop) (s : Slv α) : Prop where
 vw : Vw V s.v s.l.length (flat f s.l)
 cap : s.l.length ≤ s.c
 max : s.c ≤ maxLen
 all : ∀ x ∈ s.l, ok x
theorem Slv.nil_ok {α : Type} (V : HProp) (f : α → List Value) (ok : α → Prop) : (Slv.nil : Slv α).Ok V f ok := ⟨Vw.nil V, Nat.le_refl _, by simp [Slv.nil], fun x hx => by cases hx⟩
theorem flat_inv {α : Type} {f : α → List Value} {k : Nat} (hk : ∀ x, (f x).length = k) : ∀ (l : List α) (t : Nat) (u : Value), (flat f l)[t]? = some u → ∃ (i : Nat) (x : α) (j : Nat), l[i]? = some x ∧ t = i * k + j ∧ j < k ∧ (f x)[j]? = some u
 | [], t, u, h => by simp [flat] at h
 | x :: r, t, u, h => by
  rw [yW] at h
  by_cases ht : t < (f x).length
  ·rw [List.getElem?_append_left ht] at h; exact ⟨0, x, t, rfl, by omega, by rw [← hk x]; exact ht, h⟩
  ·rw [List.getElem?_append_right (by omega)] at h; obtain ⟨i, y, j, h1, h2, h3, h4⟩ := flat_inv hk r _ u h
   rw [hk] at h2 ht; exact ⟨i + 1, y, j, by simpa using h1, by rw [Nat.succ_mul]; omega, h3, h4⟩
theorem opens_slice {t e : TypeId} {α : Type} {f : α → List Value} {ok : α → Prop} (ht : P.underlying t = some (.slice e)) (k : Nat) (hk : ∀ x, (f x).length = k) (hc : P.cellsOf e = k) (h0 : 0 < k) (he : Opens P W e f ok) :
 Opens P W t (fun s : Slv α => [s.v]) (fun s => s.Ok (ro W) f ok) := fun H enc fuel cs x h => by
 rcases open_slice ht h with ⟨h1, _⟩ | ⟨a, len, cap, m, n, D, Pl, hcs, hb, hl, hm, hmm, hx, hi⟩
 ·exact ⟨Slv.nil, h1, Slv.nil_ok _ _ _⟩
 ·simp only [if_true] at hmm; subst hmm
  obtain ⟨l, hlen, hq⟩ := list_of (fun i (y : α) => ok y ∧ ∀ j, j < k → W.cell? (a.add (i * k + j)) = (f y)[j]?) len fun i hil => by
   obtain ⟨cs', hc', ht'⟩ := hi i (by omega)
   obtain ⟨y, rfl, hok⟩ := he H enc _ _ _ ht'
   rw [hc] at hc'; obtain ⟨_, hcl, hat⟩ := World.cells?_some hc'
   refine ⟨y, hok, fun j hj => ?_⟩; have h1 := hat j hj
   rwa [Go.Deep.add_add] at h1
  subst hlen
  by_cases hcap : m = 0
  ·subst hcap; have : l = [] := List.eq_nil_of_length_eq_zero (by omega)
   subst this; exact ⟨⟨some a, 0, []⟩, hcs, ⟨fun w R s => .inl ⟨some a, rfl, rfl, rfl⟩, Nat.le_refl _, by simp, fun x hx => by cases hx⟩⟩
  ·have hspot : a.spot = none := by
    obtain ⟨cs', hc', _⟩ := hi 0 (by omega)
    rw [hc] at hc'; obtain ⟨_, hcl, hat⟩ := World.cells?_some hc'
    have h1 := hat 0 h0
    have hlt : 0 < cs'.length := by omega
    rw [List.getElem?_eq_getElem hlt] at h1; simpa [Addr.add] using World.cell?_spot h1
   obtain ⟨b, o, sp⟩ := a
   simp only at hspot; subst hspot
   refine ⟨⟨some ⟨b, o, none⟩, m, l⟩, hcs, ⟨?_, hl, hm, fun x hx => ?_⟩⟩
   ·refine Vw.rd fun t u ht w R s => ?_
    obtain ⟨i, y, j, h1, h2, hj, h3⟩ := flat_inv hk l t u ht
    have h4 := (hq i y h1).2 j hj
    rw [h3, ← h2, show (⟨b, o, none⟩ : Addr).add t = ⟨b, o + t, none⟩ from yR _ _ _] at h4; exact ro_cell s h4
   ·obtain ⟨i, h1⟩ := List.mem_iff_getElem?.1 hx
    exact (hq i x h1).1
/-- the parts of a list, of these sizes -/
def chunks (cs : List Value) : Nat → List Nat → List (List Value)
 | _, [] => []
 | o, s :: r => (cs.drop o).take s :: chunks cs (o + s) r
theorem chunks_join (cs : List Value) : ∀ (o : Nat) (ss : List Nat), o + ss.sum = cs.length → (chunks cs o ss).flatten = cs.drop o
 | o, [], h => by
  have : o = cs.length := by simpa using h
  subst this; simp [chunks]
 | o, s :: r, h => by
  rw [List.sum_cons] at h; rw [chunks, List.flatten_cons, chunks_join cs (o + s) r (by omega), ← List.drop_drop, List.take_append_drop]
theorem flat_cel (l : List UInt8) : flat (fun b : UInt8 => [byteV b]) l = cel l := by
 induction l with
 | nil => rfl
 | cons x r ih => rw [yW, ih]; rfl
abbrev Slv.Bytes (V : HProp) (s : Slv UInt8) : Prop := s.Ok V (fun b : UInt8 => [byteV b]) (fun _ => True)
theorem Slv.Ok.b {V : HProp} {s : Slv UInt8} (h : s.Bytes V) : Vw V s.v s.l.length (cel s.l) := by have := h.vw; rwa [flat_cel] at this
/-- a struct, field by field (a program prints the proofs that use it) -/
theorem opens_fields {t : TypeId} {fs : Array Field} {H : Type} {enc : TypeId × Value → H} {fuel : Nat} {cs : List Value} {x : DataW H × List MemPlace} (ht : P.underlying t = some (.struct fs)) (ss : List Nat) (hss : ss.sum = P.cellsOf t)
 (h : DataW.trod enc P W 0 (fun _ => true) true fuel t cs = some x) :
 cs = (chunks cs 0 ss).flatten ∧ ∃ n, ∀ (i : Nat) (f : Field), fs[i]? = some f → ∃ y, DataW.trod enc P W 0 (fun _ => true) true n f.type ((cs.drop f.offset).take (P.cellsOf f.type)) = some y := by
 obtain ⟨xs, n, _, hx, hl, hlen, hg⟩ := DataW.trod_struct ht h
 refine ⟨?_, n, fun i f hi => ?_⟩
 ·rw [chunks_join cs 0 ss (by rw [hss, hl]; omega), List.drop_zero]
 ·have h1 := hg i f hi
  have hlt : i < xs.length := by rw [hlen]; exact (Array.getElem?_eq_some_iff.1 hi).1
  exact ⟨xs[i], h1.trans (List.getElem?_eq_getElem hlt)⟩
/-- an argument that is a slice -/
theorem open_arg_slice {t e : TypeId} {α : Type} {f : α → List Value} {ok : α → Prop} {H : Type} {enc : TypeId × Value → H} {v : Value} {d : DataW H} {p : List MemPlace} {r : Reach} {base : Nat} (ht : P.underlying t = some (.slice e))
 (ho : Opens P W t (fun s : Slv α => [s.v]) (fun s => s.Ok (ro W) f ok)) (hv : Value.okWide P W r base t v) (h : DataW.Trod enc P W 0 (fun _ => true) true t v d p) : ∃ s : Slv α, v = s.v ∧ s.Ok (ro W) f ok := by
 obtain ⟨fuel, hf⟩ := h
 obtain ⟨a, len, cap, rfl⟩ := okWide_slice ht hv
 obtain ⟨s, h1, h2⟩ := ho H enc fuel _ _ hf
 simp only [Value.cells, List.cons.injEq, and_true] at h1; exact ⟨s, h1, h2⟩
end
end Go.Sx
theorem Go.Sx.tri_mem {P : Go.Program} {f : Go.FuncId} {args : List Go.Value} {V : Go.Sx.HProp} (h : Go.Sx.Tri P f args [V] (fun v H' => v = .bool true ∧ H' = [V])) : Go.Sx.Tri P f args [V] (fun v H' => v = .bool true ∧ V ∈ H') :=
 Go.Sx.tri_post h fun v H hh => ⟨hh.1, by rw [hh.2]; exact List.mem_singleton_self _⟩
