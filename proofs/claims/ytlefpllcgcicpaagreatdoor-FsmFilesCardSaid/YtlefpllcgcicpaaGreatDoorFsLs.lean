/-
  FsmLeast.
-/
import Derived.Test.YtlefpllcgcicpaaGreatDoorFsHo
import Derived.Test.YtlefpllcgcicpaaGreatDoorTrH
set_option linter.unusedVariables false
set_option linter.unusedSimpArgs false
namespace Go.Proofs.YtlefpllcgcicpaaGreatDoor
open Go.Sx
set_option maxRecDepth 100000
set_option maxHeartbeats 4000000
def In.cs (k : Int) : List Value := [.int .i64 k]
theorem In.len (k : Int) : (In.cs k).length = 1 := rfl
/-- the tree has a directory nm of number 1, and nothing else -/
structure GD (t : Tr) (r : Nd) (nm : List UInt8) : Prop where
 wf : Wf t r
 ns : ∃ x, t.ns = [r, x] ∧ x.id = 1 ∧ x.par = 0 ∧ x.dir = true ∧ x.name = nm ∧ x.kids = []
section
variable {t t' : Tr} {r r' : Nd} {nm : List UInt8} {hs hs' : List Hd} {s n i : Nat} {q : Qr} {k : Rk} {e : Int}
theorem GD.thing (h : GD t r nm) : ∃ x, t.ns = [r, x] ∧ r.blk ≠ x.blk ∧ byId t.ns 1 = some x ∧ fnd t.ns r [nm] = some x ∧ x.id = 1 ∧ x.par = 0 ∧ x.dir = true ∧ x.name = nm ∧ x.kids = [] := by
 obtain ⟨x, hx, h1, h2, h3, h4, h5⟩ := h.ns
 have hb := h.wf.kd.blks
 have hr := h.wf.rid
 have hp := h.wf.rpar
 rw [hx] at hb; simp at hb
 refine ⟨x, hx, hb, ?_, ?_, h1, h2, h3, h4, h5⟩
 ·rw [hx, byId_cons, if_neg (by omega), byId_cons, if_pos (by omega)]
 ·show (match kid t.ns r.id nm with | some y => fnd t.ns y [] | none => none) = _
  rw [hx, kid_cons, if_neg (fun h => by have := h.1; omega), kid_cons, if_pos ⟨by omega, h4⟩]; rfl
theorem GD.look (h : GD t r nm) {p : List UInt8} (hp : pSplit p = ([nm], 0)) : look16 t r p = (1, 0) := by
 obtain ⟨x, hx, hb, hi, hf, h1, _⟩ := h.thing
 unfold look16; rw [hp, if_neg (fun h => h rfl)]
 show lookO (fnd t.ns r [nm]) = _
 rw [hf]; show ((x.id : Int), (0 : Int)) = _; rw [h1]; rfl
theorem GD.list (h : GD t r nm) : listO t.ns (byId t.ns 1) = ([], 0) := by
 obtain ⟨x, hx, hb, hi, hf, h1, h2, h3, h4, h5⟩ := h.thing
 rw [hi]; unfold listO
 dsimp only; rw [if_pos h3, h5]; rfl
end
end Go.Proofs.YtlefpllcgcicpaaGreatDoor
