/-
  A row is cut short.
  A text cut at a byte: its parts; strings.Split's pieces are these; joined again they are the text.
  Paths: what Split, Join, Clean tell; plain laws.
-/
import Derived.Test.YtbbmhppkhcodfaaSxSub
import Derived.Lib.SplitLaws
namespace Go.Sx
set_option linter.unusedVariables false
theorem row_trunc {e : TypeId} {size k b c : Nat} {p : Option Addr} {xs : List Value} {w : World} {R : HProp} (hb : b ≤ k) (s : sat w (star (row e size (.slice p k c) k xs) R)) : sat w (star (row e size (.slice p b c) b (xs.take (b * size))) R) := by
  obtain ⟨hl, h⟩ := sat_row s
  rcases h with ⟨h0, hk, hx, s'⟩ | ⟨b', cap, cs, fr, h0, hle, hcp, hcs, htk, hw, s'⟩
  · injection h0 with h1 h2 h3; subst h1; subst h3
    obtain rfl : b = 0 := by omega
    rw [Nat.zero_mul, List.take_zero]; exact row_nil s'
  · injection h0 with h1 _ h3; subst h1; subst h3
    refine row_mk (cs := cs) (fr := fr) (by omega) hcp hcs ?_ hw s'; rw [← htk, List.take_take, Nat.min_eq_left (Nat.mul_le_mul_right _ hb)]
section
variable {P : Program} {n : Nat} {Γ : Env} {d : Option Tmp} {ty : TypeId} {pos : String} {aft : Array Edge} {g : Option (Nat × Bool)}
theorem eff_trunc {t e : TypeId} {size bytes k b c : Nat} {z : Value} {x : Operand} {hi' : Option Operand} {p : Option Addr} {xs : List Value} {H : List HProp} (i : Nat) (ht : Slc P t e size bytes z) (hx : ev Γ x = some (.slice p k c))
    (hi : H[i]? = some (row e size (.slice p k c) k xs)) (hh : bnd Γ hi' k = some b) (hb : b ≤ k) :
    EFF P n Γ ⟨d, .slice t x Option.none hi' Option.none, ty, pos, aft, g⟩ (St H) (fun v H' => v = .slice p b c ∧ H' = H.set i (row e size (.slice p b c) b (xs.take (b * size)))) := fun a w F K Q f s hK => by
  have sh := s
  rw [perm_front hi] at sh
  have fin : ∀ {w' : World}, sat w' (star (St H) F) → sat w' (star (St (H.set i (row e size (.slice p b c) b (xs.take (b * size))))) F) := fun {w'} h => by
    rw [perm_front hi] at h; rw [St_set hi, star_assoc]; exact row_trunc hb h
  obtain ⟨hl, h⟩ := sat_row sh
  rcases h with ⟨h0, hk, hx0, s'⟩ | ⟨b', cap, cs, fr, h0, hle, hcp, hcs, htk, hw, s'⟩
  · injection h0 with h1 h2 h3; subst h1; subst h3; subst hk
    obtain rfl : b = 0 := by omega
    exact eff_ro (ro_sliceNil (P := P) (n := n) (L := St H) (d := d) (ty := ty) (pos := pos) (aft := aft) (g := g) ht hx rfl hh) a w F K Q f s fun v w' H' hp hs' => hK v w' _ ⟨hp.1, rfl⟩ (fin (by rw [hp.2] at hs'; exact hs'))
  · injection h0 with h1 _ h3; subst h1; subst h3
    refine eff_ro (ro_slice (P := P) (n := n) (L := St H) (d := d) (ty := ty) (pos := pos) (aft := aft) (g := g) ht hx rfl hh (Nat.zero_le _) (by omega)) a w F K Q f s fun v w' H' hp hs' => hK v w' _ ⟨?_, rfl⟩ (fin (by rw [hp.2] at hs'; exact hs'))
    rw [hp.1]; unfold resl
    simp
end
end Go.Sx
namespace Go.Sx
set_option linter.unusedVariables false
set_option linter.unusedSimpArgs false
def parts (c : UInt8) : List UInt8 → List (List UInt8)
  | [] => [[]]
  | x :: l => if x = c then [] :: parts c l else match parts c l with
    | h :: t => (x :: h) :: t
    | [] => [[x]]
/-- x ahead of the first part -/
def pre (x : List UInt8) : List (List UInt8) → List (List UInt8)
  | h :: t => (x ++ h) :: t
  | [] => [x]
/-- texts with a byte between -/
def joinc (c : UInt8) : List (List UInt8) → List UInt8
  | [] => []
  | [x] => x
  | x :: y :: t => x ++ c :: joinc c (y :: t)
end Go.Sx
namespace Go.Sx
set_option linter.unusedVariables false
set_option linter.unusedSimpArgs false
abbrev Tt := List UInt8
def ptB (b : UInt8) : Bool := decide (b.toNat ≠ 0) && decide (b.toNat ≠ 47)
/-- may it be a name? -/
def ptOk (s : Tt) : Bool := s.all ptB && decide (1 ≤ s.length) && decide (s.length ≤ 30) && decide (s ≠ [46]) && decide (s ≠ [46, 46])
def pStep : Option (List Tt) → Tt → Option (List Tt)
  | none, _ => none
  | some out, x => if x = [] ∨ x = [46] then some out else if x = [46, 46] then some out.dropLast else if ptOk x = true then some (out ++ [x]) else none
def pRun (acc : Option (List Tt)) (l : List Tt) : Option (List Tt) := l.foldl pStep acc
def pSplit (s : Tt) : List Tt × Int := if 200 < s.length then ([], 3) else match pRun (some []) (parts 47 s) with
  | none => ([], 20)
  | some l => (l, 0)
def pJoin (l : List Tt) : Tt := if l = [] then [47] else 47 :: joinc 47 l
def pClean (s : Tt) : Tt × Int := if (pSplit s).2 ≠ 0 then ([], (pSplit s).2) else (pJoin (pSplit s).1, 0)
/-- how long what comes out is -/
def ptLen (l : List Tt) : Nat := (l.map fun x => x.length + 1).sum
end Go.Sx
