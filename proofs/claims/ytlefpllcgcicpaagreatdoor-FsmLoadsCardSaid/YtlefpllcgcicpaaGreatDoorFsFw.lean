/-
  FsmFiles.
-/
import Derived.Test.YtlefpllcgcicpaaGreatDoorFsLs
import Derived.Test.YtlefpllcgcicpaaGreatDoorTrH
import Derived.Test.YtlefpllcgcicpaaGreatDoorSxOpen
import Derived.Test.YtlefpllcgcicpaaGreatDoorWire
set_option linter.unusedVariables false
set_option linter.unusedSimpArgs false
namespace Go.Proofs.YtlefpllcgcicpaaGreatDoor
open Go.Sx
set_option maxRecDepth 100000
set_option maxHeartbeats 4000000
theorem f15_fst {t : Tr} {b : Nat} (h : t.ns = [root0 b]) : F15 t (root0 b) := ⟨fun u hu => by rw [h] at hu; rw [List.mem_singleton.1 hu]; rfl, rfl⟩
def Sb.cs (s : Slv UInt8) : List Value := [s.v]
theorem Sb.len (s : Slv UInt8) : (Sb.cs s).length = 1 := rfl
abbrev qWo (h : List UInt8) (o : Nat) (dp : Option Addr) (dc : Nat) (y : List UInt8) : Qr := ⟨6, [], [], h, o, 0, dp, dc, y, 0, At.zero⟩
abbrev qRd (h : List UInt8) (o n : Nat) : Qr := ⟨5, [], [], h, o, n, none, 0, [], 0, At.zero⟩
theorem rows_ok {H : List HProp} {hs : List Hd} {t : Tr} (i : Nat) (hi : H[i]? = some (St (hs.map rowN))) (hl : hs.length = 256) (hv : ∀ h ∈ hs, VdH t h) {w : World} {F : HProp} (s : sat w (star (St H) F)) : HsOk hs := by
 refine ⟨hl, fun h hh => ?_⟩; obtain ⟨j, hj⟩ := List.mem_iff_getElem?.1 hh
 have hS := vd_hds (hv h hh)
 rw [yS hi, zv] at s; exact ⟨hS.fl, hS.len, row_caps j (by rw [List.getElem?_map, hj]; rfl) s⟩
set_option maxHeartbeats 400000
end Go.Proofs.YtlefpllcgcicpaaGreatDoor
