/-
  A part of a slice: where it lies, without a look at the heap.
-/
import Derived.Test.YtbbmhppkhcodfaaSxStr
namespace Go.Sx
set_option linter.unusedVariables false
def subp (p : Option Addr) (c size l : Nat) : Option Addr := p.map fun a => if c = l then a else ⟨a.block, a.off + l * size, Option.none⟩
/-- what is known of where a slice lies -/
def Shp (p : Option Addr) (k c : Nat) : Prop := ((p = Option.none ∧ k = 0 ∧ c = 0) ∨ ∃ b o, p = some ⟨b, o, Option.none⟩) ∧ k ≤ c
theorem row_shp {H : List HProp} (i : Nat) {e : TypeId} {size k c : Nat} {p : Option Addr} {xs : List Value} (hi : H[i]? = some (row e size (.slice p k c) k xs)) {w : World} {F : HProp} (s : sat w (star (St H) F)) : Shp p k c := by
  refine ⟨?_, row_caps i hi s⟩
  rcases (row_shape i hi s).2 with ⟨h1, h2, _⟩ | ⟨b, cap, h1, h2, _⟩
  · injection h1 with h1 _ h3; exact .inl ⟨h1, h2, h3⟩
  · injection h1 with h1 _ _; exact .inr ⟨b, 0, h1⟩
section
variable {P : Program} {n : Nat} {Γ : Env} {d : Option Tmp} {ty : TypeId} {pos : String} {aft : Array Edge} {g : Option (Nat × Bool)} {L : HProp}
theorem ro_sliceP {α : Type} {t e : TypeId} {x : Operand} {lo hi' : Option Operand} {p : Option Addr} {c a b size bytes : Nat} {l : List α} {z : Value} (ht : Slc P t e size bytes z) (hx : ev Γ x = some (.slice p l.length c)) (hs : Shp p l.length c) (hl : bnd Γ lo 0 = some a) (hh : bnd Γ hi' l.length = some b) (h1 : a ≤ b) (h2 : b ≤ l.length) :
    RO P n L Γ ⟨d, .slice t x lo hi' Option.none, ty, pos, aft, g⟩ (.slice (subp p c size a) ((l.drop a).take (b - a)).length (c - a)) := by
  have e : ((l.drop a).take (b - a)).length = b - a := by simp; omega
  rw [e]
  rcases hs with ⟨⟨rfl, h3, rfl⟩ | ⟨b0, o, rfl⟩, hc⟩
  · obtain rfl : b = 0 := by omega
    obtain rfl : a = 0 := by omega
    rw [h3] at hx hh
    exact ro_sliceNil ht hx hl hh
  · have h := ro_slice (P := P) (n := n) (L := L) (d := d) (ty := ty) (pos := pos) (aft := aft) (g := g) ht hx hl hh h1 (by omega)
    exact h
theorem vw_subF {A : HProp} {α : Type} {f : α → List Value} {p : Option Addr} {c a b size : Nat} {l : List α} (hV : Vw A (.slice p l.length c) l.length (flat f l)) (hk : ∀ x, (f x).length = size) (h1 : a ≤ b) (h2 : b ≤ l.length) (h3 : l.length ≤ c) :
    Vw A (.slice (subp p c size a) ((l.drop a).take (b - a)).length (c - a)) ((l.drop a).take (b - a)).length (flat f ((l.drop a).take (b - a))) := fun w R s => by
  have e : ((l.drop a).take (b - a)).length = b - a := by simp; omega
  have hf : flat f ((l.drop a).take (b - a)) = ((flat f l).drop (a * size)).take ((b - a) * size) := by rw [flat_drop hk, flat_take hk]
  rw [e, hf]
  rcases hV w R s with ⟨q, h4, h5, h6⟩ | ⟨b0, o, cap, h4, h5⟩
  · injection h4 with _ _ h7
    obtain rfl : b = 0 := by omega
    obtain rfl : a = 0 := by omega
    subst h7
    exact .inl ⟨_, rfl, rfl, by rw [h6]; simp⟩
  · injection h4 with h4 _ h8; subst h4; subst h8
    exact (Vw.resl (L := A) (b := b0) (o := o) (fun j u hj w R s => by
      rcases hV w R s with ⟨q, h9, h10, h11⟩ | ⟨b1, o1, cap1, h9, h10⟩
      · rw [h11] at hj; cases hj
      · injection h9 with h9 _ _; injection h9 with h9; injection h9 with h9 h12; subst h9; subst h12; exact h10 j u hj) h1 h2 h3 (by rw [flat_len hk])) w R s
end
end Go.Sx
