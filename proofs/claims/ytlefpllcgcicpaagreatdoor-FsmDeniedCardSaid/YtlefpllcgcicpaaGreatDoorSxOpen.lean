/-
  More on arguments that are opened.
  Slices of texts that came in, opened.
  Arguments opened, type by type.
-/
import Derived.Test.YtlefpllcgcicpaaGreatDoorShell
import Derived.Deep.Slices
import Derived.Test.YtlefpllcgcicpaaGreatDoorSxSub
import Derived.ChangeArms
namespace Go.Sx
open Go.ChangeShapes Go.WideShapes
theorem okWide_cap {P : Program} {w : World} {r : Reach} {base : Nat} {t e : TypeId} {a : Option Addr} {len cap : Nat} (ht : P.underlying t = some (.slice e)) (h : Value.okWide P w r base t (.slice a len cap)) : len ≤ cap := by
  simp only [Value.okWide, ht, Cell.okWide] at h
  cases a with
  | some x => simp only [Cell.ok, ht] at h; exact h.1
  | none =>
    simp only [Cell.ok, ht] at h
    split at h <;> simp_all
end Go.Sx
namespace Go.Sx
open Go.ChangeShapes Go.WideShapes Go.ChangeAt Go.RowKit Go.Deep
set_option linter.unusedVariables false
section
variable {H : Type} {enc : TypeId × Value → H} {P : Program} {W : World}
/-- what was there is read wherever the elder world stands -/
theorem ro_cell {w : World} {R : HProp} (s : sat w (star (ro W) R)) {a : Addr} {u : Value} (h : W.cell? a = some u) : w.cell? a = some u := by
  have hs := sat_star_left s
  have hblk : a.block < W.heap.size := by
    refine Classical.byContradiction fun hn => ?_
    have : W.heap[a.block]? = Option.none := by simp; omega
    simp [World.cell?, this] at h
  rw [World.cell?_of_block (w := W) (w' := w) ((ro_kept hs).2.2 a.block hblk)]
  exact h
end
end Go.Sx
namespace Go.Sx
open Go.ChangeShapes Go.WideShapes Go.ChangeAt Go.RowKit Go.Deep
set_option linter.unusedVariables false
section
variable {P : Program} {W : World}
/-- whatever reads as type t at the call lies as f tells, of some y that is all right -/
def Opens (P : Program) (W : World) (t : TypeId) {α : Type} (f : α → List Value) (ok : α → Prop) : Prop :=
  ∀ (H : Type) (enc : TypeId × Value → H) (fuel : Nat) (cs : List Value) (x : DataW H × List MemPlace), DataW.trod enc P W 0 (fun _ => true) true fuel t cs = some x → ∃ y, cs = f y ∧ ok y
/-- a slice that came in: where, how much room, what -/
structure Slv (α : Type) where
  p : Option Addr
  c : Nat
  l : List α
abbrev Slv.v {α : Type} (s : Slv α) : Value := .slice s.p s.l.length s.c
def Slv.nil {α : Type} : Slv α := ⟨none, 0, []⟩
structure Slv.Ok {α : Type} (V : HProp) (f : α → List Value) (ok : α → Prop) (s : Slv α) : Prop where
  vw : Vw V s.v s.l.length (flat f s.l)
  cap : s.l.length ≤ s.c
  max : s.c ≤ maxLen
  all : ∀ x ∈ s.l, ok x
/-- the parts of a list, of these sizes -/
def chunks (cs : List Value) : Nat → List Nat → List (List Value)
  | _, [] => []
  | o, s :: r => (cs.drop o).take s :: chunks cs (o + s) r
theorem flat_cel (l : List UInt8) : flat (fun b : UInt8 => [byteV b]) l = cel l := by
  induction l with
  | nil => rfl
  | cons x r ih => rw [flat_cons, ih]; rfl
abbrev Slv.Bytes (V : HProp) (s : Slv UInt8) : Prop := s.Ok V (fun b : UInt8 => [byteV b]) (fun _ => True)
theorem Slv.Ok.b {V : HProp} {s : Slv UInt8} (h : s.Bytes V) : Vw V s.v s.l.length (cel s.l) := by have := h.vw; rwa [flat_cel] at this
end
end Go.Sx
theorem Go.Sx.tri_mem {P : Go.Program} {f : Go.FuncId} {args : List Go.Value} {V : Go.Sx.HProp} (h : Go.Sx.Tri P f args [V] (fun v H' => v = .bool true ∧ H' = [V])) : Go.Sx.Tri P f args [V] (fun v H' => v = .bool true ∧ V ∈ H') :=
  Go.Sx.tri_post h fun v H hh => ⟨hh.1, by rw [hh.2]; exact List.mem_singleton_self _⟩
